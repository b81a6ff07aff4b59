/- The trees of the functions of this seat: printed by a tool of mine; each by the kernel's reckoning equal to the evaluator's. -/
import Derived.Test.YtjaegdkkiefchaaGreatDoorBT1
namespace Go.Proofs.YtjaegdkkiefchaaGreatDoor
open Go Go.Sx
set_option maxRecDepth 100000
abbrev F_zeitnotlaw15_stain : FuncId := 15
/- zeitnot/zeitnotlaw15.stain -/
def T_zeitnotlaw15_stain (v : List Value) : Tree :=
 .newbox fun r0 =>
 .loop 2 2 [(.int .i64 0)] fun C2 l0 =>
 .chk (.eqN r0 r0) <|
 .pure [] .len [g v 0] fun v1 =>
 .pure [] (.bin .lss .int) [g l0 0,v1] fun v2 =>
 .br v2 (
 .chk (.eqN r0 r0) <|
 .pure [] (.idx 12) [g v 0,g l0 0] fun v3 =>
 .chk (.ptr [] v3) <|
 .load [] (ptrAdd v3 5) 1 fun l4 =>
 .pure [] (.bin .add .int) [g l4 0,(.int .i64 1)] fun v5 =>
 .pure [] (.idx 12) [g v 0,g l0 0] fun v6 =>
 .chk (.ptr [] v6) <|
 .chk (.ptr [] (ptrAdd v6 5)) <|
 .store (ptrAdd v6 5) [v5] <|
 .pure [] (.bin .add .int) [g l0 0,(.int .i64 1)] fun v7 =>
 .cont 2 C2 [v7] [E [(.pointer (some ⟨r0,0,none⟩))],E [(.pointer (some ⟨r0,0,none⟩)),g v 0,g v 1,g v 2,g v 3,g v 4,g v 5,g v 6,g v 7,g v 8,g v 9,g v 10,g v 11,g v 12,g v 13,g v 14,g v 15,g v 16,g v 17,g v 18,g v 19,g v 20,g v 21,g v 22,g v 23,g v 24,g v 25,g v 26,g v 27,g v 28,g v 29,g v 30,g v 31,g v 32,g v 33,g v 34,g v 35,g v 36,g v 37]]) (
 .chk (.eqN r0 r0) <|
 .call false 35 [(.agg #[g v 1,g v 2,g v 3,g v 4,g v 5,g v 6,g v 7,g v 8,g v 9,g v 10,g v 11,g v 12,g v 13,g v 14])] [] [] (.agg 4) fun l8 _ =>
 .loop 21 12 [(.int .i64 0)] fun C21 l9 =>
 .pure [] .len [g l8 0] fun v10 =>
 .pure [] (.bin .lss .int) [g l9 0,v10] fun v11 =>
 .br v11 (
 .pure [] (.idx 1) [g l8 0,g l9 0] fun v12 =>
 .load [] v12 1 fun l13 =>
 .pure [] (.bin .add .int) [g l13 0,(.int .i64 1)] fun v14 =>
 .pure [] (.idx 1) [g l8 0,g l9 0] fun v15 =>
 .chk (.ptr [] v15) <|
 .store v15 [v14] <|
 .pure [] (.bin .add .int) [g l9 0,(.int .i64 1)] fun v16 =>
 .cont 21 C21 [v16] [E [(.pointer (some ⟨r0,0,none⟩))],E [(.int .i64 0)],E [g l8 0],E [g l8 0,g l8 1,g l8 2,g l8 3],E [(.int .i64 0)],E [(.pointer (some ⟨r0,0,none⟩)),g v 0,g v 1,g v 2,g v 3,g v 4,g v 5,g v 6,g v 7,g v 8,g v 9,g v 10,g v 11,g v 12,g v 13,g v 14,g v 15,g v 16,g v 17,g v 18,g v 19,g v 20,g v 21,g v 22,g v 23,g v 24,g v 25,g v 26,g v 27,g v 28,g v 29,g v 30,g v 31,g v 32,g v 33,g v 34,g v 35,g v 36,g v 37]]) (
 .loop 32 12 [(.int .i64 0)] fun C32 l17 =>
 .pure [] .len [g l8 1] fun v18 =>
 .pure [] (.bin .lss .int) [g l17 0,v18] fun v19 =>
 .br v19 (
 .pure [] (.idx 1) [g l8 1,g l17 0] fun v20 =>
 .load [] v20 1 fun l21 =>
 .pure [] (.bin .add .int) [g l21 0,(.int .i64 1)] fun v22 =>
 .pure [] (.idx 1) [g l8 1,g l17 0] fun v23 =>
 .chk (.ptr [] v23) <|
 .store v23 [v22] <|
 .pure [] (.bin .add .int) [g l17 0,(.int .i64 1)] fun v24 =>
 .cont 32 C32 [v24] [E [(.pointer (some ⟨r0,0,none⟩))],E [(.int .i64 0)],E [g l8 1],E [g l8 0,g l8 1,g l8 2,g l8 3],E [(.int .i64 1)],E [(.pointer (some ⟨r0,0,none⟩)),g v 0,g v 1,g v 2,g v 3,g v 4,g v 5,g v 6,g v 7,g v 8,g v 9,g v 10,g v 11,g v 12,g v 13,g v 14,g v 15,g v 16,g v 17,g v 18,g v 19,g v 20,g v 21,g v 22,g v 23,g v 24,g v 25,g v 26,g v 27,g v 28,g v 29,g v 30,g v 31,g v 32,g v 33,g v 34,g v 35,g v 36,g v 37]]) (
 .loop 43 12 [(.int .i64 0)] fun C43 l25 =>
 .pure [] .len [g l8 2] fun v26 =>
 .pure [] (.bin .lss .int) [g l25 0,v26] fun v27 =>
 .br v27 (
 .pure [] (.idx 1) [g l8 2,g l25 0] fun v28 =>
 .load [] v28 1 fun l29 =>
 .pure [] (.bin .add .int) [g l29 0,(.int .i64 1)] fun v30 =>
 .pure [] (.idx 1) [g l8 2,g l25 0] fun v31 =>
 .chk (.ptr [] v31) <|
 .store v31 [v30] <|
 .pure [] (.bin .add .int) [g l25 0,(.int .i64 1)] fun v32 =>
 .cont 43 C43 [v32] [E [(.pointer (some ⟨r0,0,none⟩))],E [(.int .i64 0)],E [g l8 2],E [g l8 0,g l8 1,g l8 2,g l8 3],E [(.int .i64 2)],E [(.pointer (some ⟨r0,0,none⟩)),g v 0,g v 1,g v 2,g v 3,g v 4,g v 5,g v 6,g v 7,g v 8,g v 9,g v 10,g v 11,g v 12,g v 13,g v 14,g v 15,g v 16,g v 17,g v 18,g v 19,g v 20,g v 21,g v 22,g v 23,g v 24,g v 25,g v 26,g v 27,g v 28,g v 29,g v 30,g v 31,g v 32,g v 33,g v 34,g v 35,g v 36,g v 37]]) (
 .loop 54 12 [(.int .i64 0)] fun C54 l33 =>
 .pure [] .len [g l8 3] fun v34 =>
 .pure [] (.bin .lss .int) [g l33 0,v34] fun v35 =>
 .br v35 (
 .pure [] (.idx 1) [g l8 3,g l33 0] fun v36 =>
 .load [] v36 1 fun l37 =>
 .pure [] (.bin .add .int) [g l37 0,(.int .i64 1)] fun v38 =>
 .pure [] (.idx 1) [g l8 3,g l33 0] fun v39 =>
 .chk (.ptr [] v39) <|
 .store v39 [v38] <|
 .pure [] (.bin .add .int) [g l33 0,(.int .i64 1)] fun v40 =>
 .cont 54 C54 [v40] [E [(.pointer (some ⟨r0,0,none⟩))],E [(.int .i64 0)],E [g l8 3],E [g l8 0,g l8 1,g l8 2,g l8 3],E [(.int .i64 3)],E [(.pointer (some ⟨r0,0,none⟩)),g v 0,g v 1,g v 2,g v 3,g v 4,g v 5,g v 6,g v 7,g v 8,g v 9,g v 10,g v 11,g v 12,g v 13,g v 14,g v 15,g v 16,g v 17,g v 18,g v 19,g v 20,g v 21,g v 22,g v 23,g v 24,g v 25,g v 26,g v 27,g v 28,g v 29,g v 30,g v 31,g v 32,g v 33,g v 34,g v 35,g v 36,g v 37]]) (
 .chk (.eqN r0 r0) <|
 .call false 35 [(.agg #[g v 15,g v 16,g v 17,g v 18,g v 19,g v 20,g v 21,g v 22,g v 23,g v 24,g v 25,g v 26,g v 27,g v 28])] [] [] (.agg 4) fun l41 _ =>
 .loop 77 12 [(.int .i64 0)] fun C77 l42 =>
 .pure [] .len [g l41 0] fun v43 =>
 .pure [] (.bin .lss .int) [g l42 0,v43] fun v44 =>
 .br v44 (
 .pure [] (.idx 1) [g l41 0,g l42 0] fun v45 =>
 .load [] v45 1 fun l46 =>
 .pure [] (.bin .add .int) [g l46 0,(.int .i64 1)] fun v47 =>
 .pure [] (.idx 1) [g l41 0,g l42 0] fun v48 =>
 .chk (.ptr [] v48) <|
 .store v48 [v47] <|
 .pure [] (.bin .add .int) [g l42 0,(.int .i64 1)] fun v49 =>
 .cont 77 C77 [v49] [E [(.pointer (some ⟨r0,0,none⟩))],E [(.int .i64 1)],E [g l41 0],E [g l41 0,g l41 1,g l41 2,g l41 3],E [(.int .i64 0)],E [(.pointer (some ⟨r0,0,none⟩)),g v 0,g v 1,g v 2,g v 3,g v 4,g v 5,g v 6,g v 7,g v 8,g v 9,g v 10,g v 11,g v 12,g v 13,g v 14,g v 15,g v 16,g v 17,g v 18,g v 19,g v 20,g v 21,g v 22,g v 23,g v 24,g v 25,g v 26,g v 27,g v 28,g v 29,g v 30,g v 31,g v 32,g v 33,g v 34,g v 35,g v 36,g v 37]]) (
 .loop 88 12 [(.int .i64 0)] fun C88 l50 =>
 .pure [] .len [g l41 1] fun v51 =>
 .pure [] (.bin .lss .int) [g l50 0,v51] fun v52 =>
 .br v52 (
 .pure [] (.idx 1) [g l41 1,g l50 0] fun v53 =>
 .load [] v53 1 fun l54 =>
 .pure [] (.bin .add .int) [g l54 0,(.int .i64 1)] fun v55 =>
 .pure [] (.idx 1) [g l41 1,g l50 0] fun v56 =>
 .chk (.ptr [] v56) <|
 .store v56 [v55] <|
 .pure [] (.bin .add .int) [g l50 0,(.int .i64 1)] fun v57 =>
 .cont 88 C88 [v57] [E [(.pointer (some ⟨r0,0,none⟩))],E [(.int .i64 1)],E [g l41 1],E [g l41 0,g l41 1,g l41 2,g l41 3],E [(.int .i64 1)],E [(.pointer (some ⟨r0,0,none⟩)),g v 0,g v 1,g v 2,g v 3,g v 4,g v 5,g v 6,g v 7,g v 8,g v 9,g v 10,g v 11,g v 12,g v 13,g v 14,g v 15,g v 16,g v 17,g v 18,g v 19,g v 20,g v 21,g v 22,g v 23,g v 24,g v 25,g v 26,g v 27,g v 28,g v 29,g v 30,g v 31,g v 32,g v 33,g v 34,g v 35,g v 36,g v 37]]) (
 .loop 99 12 [(.int .i64 0)] fun C99 l58 =>
 .pure [] .len [g l41 2] fun v59 =>
 .pure [] (.bin .lss .int) [g l58 0,v59] fun v60 =>
 .br v60 (
 .pure [] (.idx 1) [g l41 2,g l58 0] fun v61 =>
 .load [] v61 1 fun l62 =>
 .pure [] (.bin .add .int) [g l62 0,(.int .i64 1)] fun v63 =>
 .pure [] (.idx 1) [g l41 2,g l58 0] fun v64 =>
 .chk (.ptr [] v64) <|
 .store v64 [v63] <|
 .pure [] (.bin .add .int) [g l58 0,(.int .i64 1)] fun v65 =>
 .cont 99 C99 [v65] [E [(.pointer (some ⟨r0,0,none⟩))],E [(.int .i64 1)],E [g l41 2],E [g l41 0,g l41 1,g l41 2,g l41 3],E [(.int .i64 2)],E [(.pointer (some ⟨r0,0,none⟩)),g v 0,g v 1,g v 2,g v 3,g v 4,g v 5,g v 6,g v 7,g v 8,g v 9,g v 10,g v 11,g v 12,g v 13,g v 14,g v 15,g v 16,g v 17,g v 18,g v 19,g v 20,g v 21,g v 22,g v 23,g v 24,g v 25,g v 26,g v 27,g v 28,g v 29,g v 30,g v 31,g v 32,g v 33,g v 34,g v 35,g v 36,g v 37]]) (
 .loop 110 12 [(.int .i64 0)] fun C110 l66 =>
 .pure [] .len [g l41 3] fun v67 =>
 .pure [] (.bin .lss .int) [g l66 0,v67] fun v68 =>
 .br v68 (
 .pure [] (.idx 1) [g l41 3,g l66 0] fun v69 =>
 .load [] v69 1 fun l70 =>
 .pure [] (.bin .add .int) [g l70 0,(.int .i64 1)] fun v71 =>
 .pure [] (.idx 1) [g l41 3,g l66 0] fun v72 =>
 .chk (.ptr [] v72) <|
 .store v72 [v71] <|
 .pure [] (.bin .add .int) [g l66 0,(.int .i64 1)] fun v73 =>
 .cont 110 C110 [v73] [E [(.pointer (some ⟨r0,0,none⟩))],E [(.int .i64 1)],E [g l41 3],E [g l41 0,g l41 1,g l41 2,g l41 3],E [(.int .i64 3)],E [(.pointer (some ⟨r0,0,none⟩)),g v 0,g v 1,g v 2,g v 3,g v 4,g v 5,g v 6,g v 7,g v 8,g v 9,g v 10,g v 11,g v 12,g v 13,g v 14,g v 15,g v 16,g v 17,g v 18,g v 19,g v 20,g v 21,g v 22,g v 23,g v 24,g v 25,g v 26,g v 27,g v 28,g v 29,g v 30,g v 31,g v 32,g v 33,g v 34,g v 35,g v 36,g v 37]]) (
 .chk (.eqN r0 r0) <|
 .chk (.eqN r0 r0) <|
 .newbox fun r1 =>
 .chk (.eqN r1 r1) <|
 .loop 135 20 [(.int .i64 0)] fun C135 l74 =>
 .pure [] .len [g v 29] fun v75 =>
 .pure [] (.bin .lss .int) [g l74 0,v75] fun v76 =>
 .br v76 (
 .pure [] (.idx 5) [g v 29,g l74 0] fun v77 =>
 .chk (.ptr [] v77) <|
 .load [] (ptrAdd v77 2) 1 fun l78 =>
 .pure [] (.bin .add .int) [g l78 0,(.int .i64 1)] fun v79 =>
 .pure [] (.idx 5) [g v 29,g l74 0] fun v80 =>
 .chk (.ptr [] v80) <|
 .chk (.ptr [] (ptrAdd v80 2)) <|
 .store (ptrAdd v80 2) [v79] <|
 .loop 150 24 [(.int .i64 0)] fun C150 l81 =>
 .pure [] (.idx 5) [g v 29,g l74 0] fun v82 =>
 .chk (.ptr [] v82) <|
 .load [] (ptrAdd v82 4) 1 fun l83 =>
 .pure [] .len [g l83 0] fun v84 =>
 .pure [] (.bin .lss .int) [g l81 0,v84] fun v85 =>
 .br v85 (
 .pure [] (.idx 5) [g v 29,g l74 0] fun v86 =>
 .chk (.ptr [] v86) <|
 .load [] (ptrAdd v86 4) 1 fun l87 =>
 .pure [] (.idx 2) [g l87 0,g l81 0] fun v88 =>
 .chk (.ptr [] v88) <|
 .load [] v88 1 fun l89 =>
 .pure [] (.bin .add .int) [g l89 0,(.int .i64 1)] fun v90 =>
 .pure [] (.idx 2) [g l87 0,g l81 0] fun v91 =>
 .chk (.ptr [] v91) <|
 .chk (.ptr [] v91) <|
 .store v91 [v90] <|
 .pure [] (.bin .add .int) [g l81 0,(.int .i64 1)] fun v92 =>
 .cont 150 C150 [v92] [E [(.pointer (some ⟨r0,0,none⟩))],E [g v 29],E [g l74 0],E [(.slice (some ⟨r1,0,none⟩) 2 2)],E [(.int .i64 2)],E [(.int .i64 0)],E [(.pointer (some ⟨r0,0,none⟩)),g v 0,g v 1,g v 2,g v 3,g v 4,g v 5,g v 6,g v 7,g v 8,g v 9,g v 10,g v 11,g v 12,g v 13,g v 14,g v 15,g v 16,g v 17,g v 18,g v 19,g v 20,g v 21,g v 22,g v 23,g v 24,g v 25,g v 26,g v 27,g v 28,g v 29,g v 30,g v 31,g v 32,g v 33,g v 34,g v 35,g v 36,g v 37],E [(.pointer (some ⟨r1,0,none⟩)),g v 29,g v 30]]) (
 .pure [] (.bin .add .int) [g l74 0,(.int .i64 1)] fun v93 =>
 .cont 135 C135 [v93] [E [(.pointer (some ⟨r0,0,none⟩))],E [g v 29],E [(.slice (some ⟨r1,0,none⟩) 2 2)],E [(.int .i64 2)],E [(.int .i64 0)],E [(.pointer (some ⟨r0,0,none⟩)),g v 0,g v 1,g v 2,g v 3,g v 4,g v 5,g v 6,g v 7,g v 8,g v 9,g v 10,g v 11,g v 12,g v 13,g v 14,g v 15,g v 16,g v 17,g v 18,g v 19,g v 20,g v 21,g v 22,g v 23,g v 24,g v 25,g v 26,g v 27,g v 28,g v 29,g v 30,g v 31,g v 32,g v 33,g v 34,g v 35,g v 36,g v 37],E [(.pointer (some ⟨r1,0,none⟩)),g v 29,g v 30]])) (
 .chk (.eqN r1 r1) <|
 .loop 147 20 [(.int .i64 0)] fun C147 l94 =>
 .pure [] .len [g v 30] fun v95 =>
 .pure [] (.bin .lss .int) [g l94 0,v95] fun v96 =>
 .br v96 (
 .pure [] (.idx 5) [g v 30,g l94 0] fun v97 =>
 .chk (.ptr [] v97) <|
 .load [] (ptrAdd v97 2) 1 fun l98 =>
 .pure [] (.bin .add .int) [g l98 0,(.int .i64 1)] fun v99 =>
 .pure [] (.idx 5) [g v 30,g l94 0] fun v100 =>
 .chk (.ptr [] v100) <|
 .chk (.ptr [] (ptrAdd v100 2)) <|
 .store (ptrAdd v100 2) [v99] <|
 .loop 162 24 [(.int .i64 0)] fun C162 l101 =>
 .pure [] (.idx 5) [g v 30,g l94 0] fun v102 =>
 .chk (.ptr [] v102) <|
 .load [] (ptrAdd v102 4) 1 fun l103 =>
 .pure [] .len [g l103 0] fun v104 =>
 .pure [] (.bin .lss .int) [g l101 0,v104] fun v105 =>
 .br v105 (
 .pure [] (.idx 5) [g v 30,g l94 0] fun v106 =>
 .chk (.ptr [] v106) <|
 .load [] (ptrAdd v106 4) 1 fun l107 =>
 .pure [] (.idx 2) [g l107 0,g l101 0] fun v108 =>
 .chk (.ptr [] v108) <|
 .load [] v108 1 fun l109 =>
 .pure [] (.bin .add .int) [g l109 0,(.int .i64 1)] fun v110 =>
 .pure [] (.idx 2) [g l107 0,g l101 0] fun v111 =>
 .chk (.ptr [] v111) <|
 .chk (.ptr [] v111) <|
 .store v111 [v110] <|
 .pure [] (.bin .add .int) [g l101 0,(.int .i64 1)] fun v112 =>
 .cont 162 C162 [v112] [E [(.pointer (some ⟨r0,0,none⟩))],E [g v 30],E [g l94 0],E [(.slice (some ⟨r1,0,none⟩) 2 2)],E [(.int .i64 2)],E [(.int .i64 1)],E [(.pointer (some ⟨r0,0,none⟩)),g v 0,g v 1,g v 2,g v 3,g v 4,g v 5,g v 6,g v 7,g v 8,g v 9,g v 10,g v 11,g v 12,g v 13,g v 14,g v 15,g v 16,g v 17,g v 18,g v 19,g v 20,g v 21,g v 22,g v 23,g v 24,g v 25,g v 26,g v 27,g v 28,g v 29,g v 30,g v 31,g v 32,g v 33,g v 34,g v 35,g v 36,g v 37],E [(.pointer (some ⟨r1,0,none⟩)),g v 29,g v 30]]) (
 .pure [] (.bin .add .int) [g l94 0,(.int .i64 1)] fun v113 =>
 .cont 147 C147 [v113] [E [(.pointer (some ⟨r0,0,none⟩))],E [g v 30],E [(.slice (some ⟨r1,0,none⟩) 2 2)],E [(.int .i64 2)],E [(.int .i64 1)],E [(.pointer (some ⟨r0,0,none⟩)),g v 0,g v 1,g v 2,g v 3,g v 4,g v 5,g v 6,g v 7,g v 8,g v 9,g v 10,g v 11,g v 12,g v 13,g v 14,g v 15,g v 16,g v 17,g v 18,g v 19,g v 20,g v 21,g v 22,g v 23,g v 24,g v 25,g v 26,g v 27,g v 28,g v 29,g v 30,g v 31,g v 32,g v 33,g v 34,g v 35,g v 36,g v 37],E [(.pointer (some ⟨r1,0,none⟩)),g v 29,g v 30]])) (
 .loop 156 29 [(.int .i64 0)] fun C156 l114 =>
 .chk (.eqN r0 r0) <|
 .pure [] .len [g v 31] fun v115 =>
 .pure [] (.bin .lss .int) [g l114 0,v115] fun v116 =>
 .br v116 (
 .chk (.eqN r0 r0) <|
 .pure [] (.idx 1) [g v 31,g l114 0] fun v117 =>
 .load [] v117 1 fun l118 =>
 .pure [] (.bin .add .int) [g l118 0,(.int .i64 1)] fun v119 =>
 .pure [] (.idx 1) [g v 31,g l114 0] fun v120 =>
 .chk (.ptr [] v120) <|
 .store v120 [v119] <|
 .pure [] (.bin .add .int) [g l114 0,(.int .i64 1)] fun v121 =>
 .cont 156 C156 [v121] [E [(.pointer (some ⟨r0,0,none⟩))],E [(.pointer (some ⟨r0,0,none⟩)),g v 0,g v 1,g v 2,g v 3,g v 4,g v 5,g v 6,g v 7,g v 8,g v 9,g v 10,g v 11,g v 12,g v 13,g v 14,g v 15,g v 16,g v 17,g v 18,g v 19,g v 20,g v 21,g v 22,g v 23,g v 24,g v 25,g v 26,g v 27,g v 28,g v 29,g v 30,g v 31,g v 32,g v 33,g v 34,g v 35,g v 36,g v 37]]) (
 .loop 163 33 [(.int .i64 0)] fun C163 l122 =>
 .chk (.eqN r0 r0) <|
 .pure [] .len [g v 32] fun v123 =>
 .pure [] (.bin .lss .int) [g l122 0,v123] fun v124 =>
 .br v124 (
 .chk (.eqN r0 r0) <|
 .pure [] (.idx 2) [g v 32,g l122 0] fun v125 =>
 .chk (.ptr [] v125) <|
 .load [] v125 1 fun l126 =>
 .pure [] (.bin .add .int) [g l126 0,(.int .i64 1)] fun v127 =>
 .pure [] (.idx 2) [g v 32,g l122 0] fun v128 =>
 .chk (.ptr [] v128) <|
 .chk (.ptr [] v128) <|
 .store v128 [v127] <|
 .pure [] (.bin .add .int) [g l122 0,(.int .i64 1)] fun v129 =>
 .cont 163 C163 [v129] [E [(.pointer (some ⟨r0,0,none⟩))],E [(.pointer (some ⟨r0,0,none⟩)),g v 0,g v 1,g v 2,g v 3,g v 4,g v 5,g v 6,g v 7,g v 8,g v 9,g v 10,g v 11,g v 12,g v 13,g v 14,g v 15,g v 16,g v 17,g v 18,g v 19,g v 20,g v 21,g v 22,g v 23,g v 24,g v 25,g v 26,g v 27,g v 28,g v 29,g v 30,g v 31,g v 32,g v 33,g v 34,g v 35,g v 36,g v 37]]) (
 .ret (.tuple #[]) [])))))))))))))
theorem T_zeitnotlaw15_stain_eq (vs : List Value) : sxFun PP Tryz.f15 (mkOpts okL [(43, [5, 6, 7, 8])] [(6, .unroll 3), (9, .unroll 5), (17, .unroll 3), (2, .inv [2] [1] [(1, [])]), (12, .inv [6] [1, 3, 5, 37, 38] [(1, [])]), (20, .inv [9] [1, 8, 58, 59, 60] [(1, []), (58, [])]), (24, .inv [10] [1, 8, 9, 58, 59, 60] [(1, []), (58, [])]), (29, .inv [11] [1] [(1, [])]), (33, .inv [12] [1] [(1, [])])] []) vs = T_zeitnotlaw15_stain vs := by kernel_rfl
theorem run_zeitnotlaw15_stain {args vs} (ha : entryArgs PP Tryz.f15 args = some vs) (ho : Ones vs) {H O Q} (h : (T_zeitnotlaw15_stain vs).den PP Q H O) : Triple PP F_zeitnotlaw15_stain args H O Q :=
 triple_run mixed (mkOpts_ok okL_ok _ _ _) Tryz.func15 T_zeitnotlaw15_stain_eq ha ho h
abbrev F_zeitnotlaw15_gives : FuncId := 19
/- zeitnot/zeitnotlaw15.gives -/
def T_zeitnotlaw15_gives (v : List Value) : Tree :=
 .newbox fun r0 =>
 .newbox fun r1 =>
 .newbox fun r2 =>
 .newbox fun r3 =>
 .chk (.eqN r0 r0) <|
 .chk (.eqN r1 r1) <|
 .call false 14 [(.agg #[g v 0,g v 1,g v 2,g v 3,g v 4,g v 5,g v 6,g v 7,g v 8,g v 9,g v 10,g v 11,g v 12,g v 13,g v 14,g v 15,g v 16,g v 17,g v 18,g v 19,g v 20,g v 21,g v 22,g v 23,g v 24,g v 25,g v 26,g v 27,g v 28,g v 29,g v 30,g v 31,g v 32,g v 33,g v 34,g v 35,g v 36,g v 37]),(.agg #[g v 39,g v 40,g v 41,g v 42,g v 43,g v 44,g v 45,g v 46,g v 47,g v 48,g v 49,g v 50,g v 51,g v 52,g v 53,g v 54,g v 55,g v 56,g v 57,g v 58,g v 59,g v 60,g v 61,g v 62,g v 63,g v 64,g v 65,g v 66,g v 67,g v 68,g v 69,g v 70,g v 71,g v 72,g v 73,g v 74,g v 75,g v 76])] [] [] .one fun l0 _ =>
 .chk (.eqV (g l0 0) (g l0 0)) <|
 .chk (.eqV (g l0 0) (g l0 0)) <|
 .pure [] (.bin .eql .int) [g v 38,g v 77] fun v1 =>
 .chk (.eqV (g l0 0) (g l0 0)) <|
 .pure [] .pick [g l0 0,v1,(.bool false)] fun v2 =>
 .br v2 (
 .chk (.eqN r2 r2) <|
 .chk (.eqN r3 r3) <|
 .call false 14 [(.agg #[g v 78,g v 79,g v 80,g v 81,g v 82,g v 83,g v 84,g v 85,g v 86,g v 87,g v 88,g v 89,g v 90,g v 91,g v 92,g v 93,g v 94,g v 95,g v 96,g v 97,g v 98,g v 99,g v 100,g v 101,g v 102,g v 103,g v 104,g v 105,g v 106,g v 107,g v 108,g v 109,g v 110,g v 111,g v 112,g v 113,g v 114,g v 115]),(.agg #[g v 116,g v 117,g v 118,g v 119,g v 120,g v 121,g v 122,g v 123,g v 124,g v 125,g v 126,g v 127,g v 128,g v 129,g v 130,g v 131,g v 132,g v 133,g v 134,g v 135,g v 136,g v 137,g v 138,g v 139,g v 140,g v 141,g v 142,g v 143,g v 144,g v 145,g v 146,g v 147,g v 148,g v 149,g v 150,g v 151,g v 152,g v 153])] [] [] .one fun l3 _ =>
 .chk (.eqN r0 r0) <|
 .call false 15 [(.agg #[g v 0,g v 1,g v 2,g v 3,g v 4,g v 5,g v 6,g v 7,g v 8,g v 9,g v 10,g v 11,g v 12,g v 13,g v 14,g v 15,g v 16,g v 17,g v 18,g v 19,g v 20,g v 21,g v 22,g v 23,g v 24,g v 25,g v 26,g v 27,g v 28,g v 29,g v 30,g v 31,g v 32,g v 33,g v 34,g v 35,g v 36,g v 37])] [] [] (.tup []) fun l4 _ =>
 .br (g l3 0) (
 .chk (.eqN r2 r2) <|
 .chk (.eqN r3 r3) <|
 .call false 14 [(.agg #[g v 78,g v 79,g v 80,g v 81,g v 82,g v 83,g v 84,g v 85,g v 86,g v 87,g v 88,g v 89,g v 90,g v 91,g v 92,g v 93,g v 94,g v 95,g v 96,g v 97,g v 98,g v 99,g v 100,g v 101,g v 102,g v 103,g v 104,g v 105,g v 106,g v 107,g v 108,g v 109,g v 110,g v 111,g v 112,g v 113,g v 114,g v 115]),(.agg #[g v 116,g v 117,g v 118,g v 119,g v 120,g v 121,g v 122,g v 123,g v 124,g v 125,g v 126,g v 127,g v 128,g v 129,g v 130,g v 131,g v 132,g v 133,g v 134,g v 135,g v 136,g v 137,g v 138,g v 139,g v 140,g v 141,g v 142,g v 143,g v 144,g v 145,g v 146,g v 147,g v 148,g v 149,g v 150,g v 151,g v 152,g v 153])] [] [] .one fun l5 _ =>
 .ret (g l5 0) []) (
 .ret (.bool false) [])) (
 .chk (.eqN r0 r0) <|
 .call false 15 [(.agg #[g v 0,g v 1,g v 2,g v 3,g v 4,g v 5,g v 6,g v 7,g v 8,g v 9,g v 10,g v 11,g v 12,g v 13,g v 14,g v 15,g v 16,g v 17,g v 18,g v 19,g v 20,g v 21,g v 22,g v 23,g v 24,g v 25,g v 26,g v 27,g v 28,g v 29,g v 30,g v 31,g v 32,g v 33,g v 34,g v 35,g v 36,g v 37])] [] [] (.tup []) fun l6 _ =>
 .ret (.bool false) [])
theorem T_zeitnotlaw15_gives_eq (vs : List Value) : sxFun PP Tryz.f19 (mkOpts okL [(43, [5, 6, 7, 8])] [] []) vs = T_zeitnotlaw15_gives vs := by kernel_rfl
theorem run_zeitnotlaw15_gives {args vs} (ha : entryArgs PP Tryz.f19 args = some vs) (ho : Ones vs) {H O Q} (h : (T_zeitnotlaw15_gives vs).den PP Q H O) : Triple PP F_zeitnotlaw15_gives args H O Q :=
 triple_run mixed (mkOpts_ok okL_ok _ _ _) Tryz.func19 T_zeitnotlaw15_gives_eq ha ho h
abbrev F_zeitnotref15_Index : FuncId := 21
/- zeitnot/zeitnotref15.Index -/
def T_zeitnotref15_Index (v : List Value) : Tree :=
 .newbox fun r0 =>
 .loop 3 2 [(.int .i64 0)] fun C3 l0 =>
 .chk (.eqN r0 r0) <|
 .pure [] .len [g v 0] fun v1 =>
 .pure [] (.bin .lss .int) [g l0 0,v1] fun v2 =>
 .br v2 (
 .chk (.eqN r0 r0) <|
 .pure [] (.idx 12) [g v 0,g l0 0] fun v3 =>
 .chk (.ptr [] v3) <|
 .load [] v3 1 fun l4 =>
 .pure [] (.bin .eql .int) [g l4 0,g v 38] fun v5 =>
 .br v5 (
 .ret (g l0 0) []) (
 .pure [] (.bin .add .int) [g l0 0,(.int .i64 1)] fun v6 =>
 .cont 3 C3 [v6] [E [g v 38],E [(.pointer (some ⟨r0,0,none⟩))],E [(.pointer (some ⟨r0,0,none⟩)),g v 0,g v 1,g v 2,g v 3,g v 4,g v 5,g v 6,g v 7,g v 8,g v 9,g v 10,g v 11,g v 12,g v 13,g v 14,g v 15,g v 16,g v 17,g v 18,g v 19,g v 20,g v 21,g v 22,g v 23,g v 24,g v 25,g v 26,g v 27,g v 28,g v 29,g v 30,g v 31,g v 32,g v 33,g v 34,g v 35,g v 36,g v 37]])) (
 .ret (.int .i64 (-1)) [])
theorem T_zeitnotref15_Index_eq (vs : List Value) : sxFun PP Tryz.f21 (mkOpts okL [(43, [5, 6, 7, 8])] [(2, .inv [5] [1, 2] [(2, [])])] []) vs = T_zeitnotref15_Index vs := by kernel_rfl
theorem run_zeitnotref15_Index {args vs} (ha : entryArgs PP Tryz.f21 args = some vs) (ho : Ones vs) {H O Q} (h : (T_zeitnotref15_Index vs).den PP Q H O) : Triple PP F_zeitnotref15_Index args H O Q :=
 triple_run mixed (mkOpts_ok okL_ok _ _ _) Tryz.func21 T_zeitnotref15_Index_eq ha ho h
abbrev F_zeitnotref14_Valid : FuncId := 22
/- zeitnot/zeitnotref14.Valid -/
def T_zeitnotref14_Valid (v : List Value) : Tree :=
 .newbox fun r0 =>
 .chk (.eqN r0 r0) <|
 .pure [] (.bin .lss .int) [g v 0,(.int .i64 1)] fun v0 =>
 .chk (.eqN r0 r0) <|
 .chk (.eqV v0 v0) <|
 .chk (.eqV v0 v0) <|
 .pure [] (.bin .gtr .int) [g v 0,(.int .i64 500)] fun v1 =>
 .chk (.eqV v0 v0) <|
 .pure [] .pick [v0,(.bool true),v1] fun v2 =>
 .chk (.eqN r0 r0) <|
 .chk (.eqV v2 v2) <|
 .chk (.eqV v2 v2) <|
 .pure [] (.bin .lss .int) [g v 1,(.int .i64 (-1))] fun v3 =>
 .chk (.eqV v2 v2) <|
 .pure [] .pick [v2,(.bool true),v3] fun v4 =>
 .chk (.eqN r0 r0) <|
 .chk (.eqV v4 v4) <|
 .chk (.eqV v4 v4) <|
 .pure [] (.bin .gtr .int) [g v 1,(.int .i64 399)] fun v5 =>
 .chk (.eqV v4 v4) <|
 .pure [] .pick [v4,(.bool true),v5] fun v6 =>
 .chk (.eqN r0 r0) <|
 .chk (.eqV v6 v6) <|
 .chk (.eqV v6 v6) <|
 .pure [] (.bin .lss .int) [g v 2,(.int .i64 0)] fun v7 =>
 .chk (.eqV v6 v6) <|
 .pure [] .pick [v6,(.bool true),v7] fun v8 =>
 .chk (.eqN r0 r0) <|
 .chk (.eqV v8 v8) <|
 .chk (.eqV v8 v8) <|
 .pure [] (.bin .gtr .int) [g v 2,(.int .i64 1)] fun v9 =>
 .chk (.eqV v8 v8) <|
 .pure [] .pick [v8,(.bool true),v9] fun v10 =>
 .br v10 (
 .ret (.bool false) []) (
 .chk (.eqN r0 r0) <|
 .pure [] (.bin .geq .int) [g v 1,(.int .i64 0)] fun v11 =>
 .chk (.eqN r0 r0) <|
 .chk (.eqV v11 v11) <|
 .chk (.eqV v11 v11) <|
 .pure [] (.bin .neq .int) [g v 3,(.int .i64 0)] fun v12 =>
 .chk (.eqV v11 v11) <|
 .chk (.eqN r0 r0) <|
 .chk (.eqV v12 v12) <|
 .chk (.eqV v11 v11) <|
 .chk (.eqV v12 v12) <|
 .chk (.eqV v11 v11) <|
 .pure [] (.bin .neq .int) [g v 4,(.int .i64 0)] fun v13 =>
 .chk (.eqV v11 v11) <|
 .chk (.eqV v12 v12) <|
 .chk (.eqV v11 v11) <|
 .pure [] .pick [v12,(.bool true),v13] fun v14 =>
 .chk (.eqV v11 v11) <|
 .pure [] .pick [v11,v14,(.bool false)] fun v15 =>
 .br v15 (
 .ret (.bool false) []) (
 .chk (.eqN r0 r0) <|
 .call false 65 [g v 3] [] [] .one fun l16 _ =>
 .br (g l16 0) (
 .chk (.eqN r0 r0) <|
 .call false 65 [g v 4] [] [] .one fun l17 _ =>
 .br (g l17 0) (
 .chk (.eqN r0 r0) <|
 .call false 65 [g v 5] [] [] .one fun l18 _ =>
 .br (g l18 0) (
 .chk (.eqN r0 r0) <|
 .call false 65 [g v 6] [] [] .one fun l19 _ =>
 .br (g l19 0) (
 .chk (.eqN r0 r0) <|
 .call false 65 [g v 7] [] [] .one fun l20 _ =>
 .br (g l20 0) (
 .chk (.eqN r0 r0) <|
 .call false 65 [g v 8] [] [] .one fun l21 _ =>
 .ret (g l21 0) []) (
 .ret (.bool false) [])) (
 .ret (.bool false) [])) (
 .ret (.bool false) [])) (
 .ret (.bool false) [])) (
 .ret (.bool false) [])))
theorem T_zeitnotref14_Valid_eq (vs : List Value) : sxFun PP Tryz.f22 (mkOpts okL [(43, [5, 6, 7, 8])] [] []) vs = T_zeitnotref14_Valid vs := by kernel_rfl
theorem run_zeitnotref14_Valid {args vs} (ha : entryArgs PP Tryz.f22 args = some vs) (ho : Ones vs) {H O Q} (h : (T_zeitnotref14_Valid vs).den PP Q H O) : Triple PP F_zeitnotref14_Valid args H O Q :=
 triple_run mixed (mkOpts_ok okL_ok _ _ _) Tryz.func22 T_zeitnotref14_Valid_eq ha ho h
abbrev F_zeitnotref15_Creatures : FuncId := 24
/- zeitnot/zeitnotref15.Creatures -/
def T_zeitnotref15_Creatures (v : List Value) : Tree :=
 .newbox fun r0 =>
 .sw (g v 39) 0 (
 .chk (.eqN r0 r0) <|
 .pure [] .len [g v 9] fun v0 =>
 .loop 10 3 [(.slice none 0 0),(.int .i64 0)] fun C10 l1 =>
 .pure [] (.bin .lss .int) [g l1 1,v0] fun v2 =>
 .br v2 (
 .pure [] (.idx 1) [g v 9,g l1 1] fun v3 =>
 .load [] v3 1 fun l4 =>
 .chk (.eqN r0 r0) <|
 .chk (.eqN r0 r0) <|
 .call false 21 [(.agg #[g v 1,g v 2,g v 3,g v 4,g v 5,g v 6,g v 7,g v 8,g v 9,g v 10,g v 11,g v 12,g v 13,g v 14,g v 15,g v 16,g v 17,g v 18,g v 19,g v 20,g v 21,g v 22,g v 23,g v 24,g v 25,g v 26,g v 27,g v 28,g v 29,g v 30,g v 31,g v 32,g v 33,g v 34,g v 35,g v 36,g v 37,g v 38]),g l4 0] [] [] .one fun l5 _ =>
 .pure [] (.idx 12) [g v 1,g l5 0] fun v6 =>
 .load [] v6 12 fun l7 =>
 .call false 66 [g v 0,(.agg #[g l7 0,g l7 1,g l7 2,g l7 3,g l7 4,g l7 5,g l7 6,g l7 7,g l7 8,g l7 9,g l7 10,g l7 11])] [] [] .one fun l8 _ =>
 .br (g l8 0) (
 .newbox fun r1 =>
 .prim (.bi .append #[25,25] 25) [g l1 0,(.slice (some ⟨r1,0,none⟩) 1 1)] [⟨r1,3,[g l4 0]⟩] [] .one fun l9 _ =>
 .pure [] (.bin .add .int) [g l1 1,(.int .i64 1)] fun v10 =>
 .cont 10 C10 [g l9 0,v10] [E [g v 0],E [(.pointer (some ⟨r0,0,none⟩))],E [g v 9],E [v0],E [(.pointer (some ⟨r0,0,none⟩)),g v 1,g v 2,g v 3,g v 4,g v 5,g v 6,g v 7,g v 8,g v 9,g v 10,g v 11,g v 12,g v 13,g v 14,g v 15,g v 16,g v 17,g v 18,g v 19,g v 20,g v 21,g v 22,g v 23,g v 24,g v 25,g v 26,g v 27,g v 28,g v 29,g v 30,g v 31,g v 32,g v 33,g v 34,g v 35,g v 36,g v 37,g v 38]]) (
 .pure [] (.bin .add .int) [g l1 1,(.int .i64 1)] fun v11 =>
 .cont 10 C10 [g l1 0,v11] [E [g v 0],E [(.pointer (some ⟨r0,0,none⟩))],E [g v 9],E [v0],E [(.pointer (some ⟨r0,0,none⟩)),g v 1,g v 2,g v 3,g v 4,g v 5,g v 6,g v 7,g v 8,g v 9,g v 10,g v 11,g v 12,g v 13,g v 14,g v 15,g v 16,g v 17,g v 18,g v 19,g v 20,g v 21,g v 22,g v 23,g v 24,g v 25,g v 26,g v 27,g v 28,g v 29,g v 30,g v 31,g v 32,g v 33,g v 34,g v 35,g v 36,g v 37,g v 38]])) (
 .call false 67 [g l1 0] [] [] .one fun l12 _ =>
 .ret (g l12 0) [])) (
 .sw (g v 39) 1 (
 .chk (.eqN r0 r0) <|
 .pure [] .len [g v 23] fun v13 =>
 .loop 10 3 [(.slice none 0 0),(.int .i64 0)] fun C10 l14 =>
 .pure [] (.bin .lss .int) [g l14 1,v13] fun v15 =>
 .br v15 (
 .pure [] (.idx 1) [g v 23,g l14 1] fun v16 =>
 .load [] v16 1 fun l17 =>
 .chk (.eqN r0 r0) <|
 .chk (.eqN r0 r0) <|
 .call false 21 [(.agg #[g v 1,g v 2,g v 3,g v 4,g v 5,g v 6,g v 7,g v 8,g v 9,g v 10,g v 11,g v 12,g v 13,g v 14,g v 15,g v 16,g v 17,g v 18,g v 19,g v 20,g v 21,g v 22,g v 23,g v 24,g v 25,g v 26,g v 27,g v 28,g v 29,g v 30,g v 31,g v 32,g v 33,g v 34,g v 35,g v 36,g v 37,g v 38]),g l17 0] [] [] .one fun l18 _ =>
 .pure [] (.idx 12) [g v 1,g l18 0] fun v19 =>
 .load [] v19 12 fun l20 =>
 .call false 66 [g v 0,(.agg #[g l20 0,g l20 1,g l20 2,g l20 3,g l20 4,g l20 5,g l20 6,g l20 7,g l20 8,g l20 9,g l20 10,g l20 11])] [] [] .one fun l21 _ =>
 .br (g l21 0) (
 .newbox fun r2 =>
 .prim (.bi .append #[25,25] 25) [g l14 0,(.slice (some ⟨r2,0,none⟩) 1 1)] [⟨r2,3,[g l17 0]⟩] [] .one fun l22 _ =>
 .pure [] (.bin .add .int) [g l14 1,(.int .i64 1)] fun v23 =>
 .cont 10 C10 [g l22 0,v23] [E [g v 0],E [(.pointer (some ⟨r0,0,none⟩))],E [g v 23],E [v13],E [(.pointer (some ⟨r0,0,none⟩)),g v 1,g v 2,g v 3,g v 4,g v 5,g v 6,g v 7,g v 8,g v 9,g v 10,g v 11,g v 12,g v 13,g v 14,g v 15,g v 16,g v 17,g v 18,g v 19,g v 20,g v 21,g v 22,g v 23,g v 24,g v 25,g v 26,g v 27,g v 28,g v 29,g v 30,g v 31,g v 32,g v 33,g v 34,g v 35,g v 36,g v 37,g v 38]]) (
 .pure [] (.bin .add .int) [g l14 1,(.int .i64 1)] fun v24 =>
 .cont 10 C10 [g l14 0,v24] [E [g v 0],E [(.pointer (some ⟨r0,0,none⟩))],E [g v 23],E [v13],E [(.pointer (some ⟨r0,0,none⟩)),g v 1,g v 2,g v 3,g v 4,g v 5,g v 6,g v 7,g v 8,g v 9,g v 10,g v 11,g v 12,g v 13,g v 14,g v 15,g v 16,g v 17,g v 18,g v 19,g v 20,g v 21,g v 22,g v 23,g v 24,g v 25,g v 26,g v 27,g v 28,g v 29,g v 30,g v 31,g v 32,g v 33,g v 34,g v 35,g v 36,g v 37,g v 38]])) (
 .call false 67 [g l14 0] [] [] .one fun l25 _ =>
 .ret (g l25 0) [])) (
 .stuck 901))
theorem T_zeitnotref15_Creatures_eq (vs : List Value) : sxFun PP Tryz.f24 (mkOpts okL [(43, [5, 6, 7, 8])] [(3, .inv [7, 16] [0, 4, 14, 15] [(4, [])])] []) vs = T_zeitnotref15_Creatures vs := by kernel_rfl
theorem run_zeitnotref15_Creatures {args vs} (ha : entryArgs PP Tryz.f24 args = some vs) (ho : Ones vs) {H O Q} (h : (T_zeitnotref15_Creatures vs).den PP Q H O) : Triple PP F_zeitnotref15_Creatures args H O Q :=
 triple_run mixed (mkOpts_ok okL_ok _ _ _) Tryz.func24 T_zeitnotref15_Creatures_eq ha ho h
abbrev F_zeitnotref15_Ints : FuncId := 25
/- zeitnot/zeitnotref15.Ints -/
def T_zeitnotref15_Ints (v : List Value) : Tree :=
 .pure [] .len [g v 0] fun v0 =>
 .pure [] .len [g v 1] fun v1 =>
 .pure [] (.bin .neq .int) [v0,v1] fun v2 =>
 .br v2 (
 .ret (.bool false) []) (
 .loop 7 4 [(.int .i64 0)] fun C7 l3 =>
 .pure [] .len [g v 0] fun v4 =>
 .pure [] (.bin .lss .int) [g l3 0,v4] fun v5 =>
 .br v5 (
 .pure [] (.idx 1) [g v 0,g l3 0] fun v6 =>
 .load [] v6 1 fun l7 =>
 .pure [] (.idx 1) [g v 1,g l3 0] fun v8 =>
 .load [] v8 1 fun l9 =>
 .pure [] (.bin .neq .int) [g l7 0,g l9 0] fun v10 =>
 .br v10 (
 .ret (.bool false) []) (
 .pure [] (.bin .add .int) [g l3 0,(.int .i64 1)] fun v11 =>
 .cont 7 C7 [v11] [E [g v 0],E [g v 1]])) (
 .ret (.bool true) []))
theorem T_zeitnotref15_Ints_eq (vs : List Value) : sxFun PP Tryz.f25 (mkOpts okL [(43, [5, 6, 7, 8])] [(4, .inv [5] [0, 1] [])] []) vs = T_zeitnotref15_Ints vs := by kernel_rfl
theorem run_zeitnotref15_Ints {args vs} (ha : entryArgs PP Tryz.f25 args = some vs) (ho : Ones vs) {H O Q} (h : (T_zeitnotref15_Ints vs).den PP Q H O) : Triple PP F_zeitnotref15_Ints args H O Q :=
 triple_run mixed (mkOpts_ok okL_ok _ _ _) Tryz.func25 T_zeitnotref15_Ints_eq ha ho h
abbrev F_board_Creatures : FuncId := 26
/- zeitnot/board.Creatures -/
def T_board_Creatures (v : List Value) : Tree :=
 .newbox fun r0 =>
 .call false 44 [g v 39,(.int .i64 0),(.int .i64 1)] [] [] .one fun l0 _ =>
 .pure [] .not [g l0 0] fun v1 =>
 .br v1 (
 .ret (.slice none 0 0) []) (
 .chk (.eqN r0 r0) <|
 .call false 11 [(.agg #[g v 1,g v 2,g v 3,g v 4,g v 5,g v 6,g v 7,g v 8,g v 9,g v 10,g v 11,g v 12,g v 13,g v 14,g v 15,g v 16,g v 17,g v 18,g v 19,g v 20,g v 21,g v 22,g v 23,g v 24,g v 25,g v 26,g v 27,g v 28,g v 29,g v 30,g v 31,g v 32,g v 33,g v 34,g v 35,g v 36,g v 37,g v 38])] [] [] .one fun l2 _ =>
 .pure [] .not [g l2 0] fun v3 =>
 .br v3 (
 .ret (.slice none 0 0) []) (
 .chk (.eqN r0 r0) <|
 .pure [] .len [g v 1] fun v4 =>
 .loop 15 5 [(.slice none 0 0),(.int .i64 0)] fun C15 l5 =>
 .pure [] (.bin .lss .int) [g l5 1,v4] fun v6 =>
 .br v6 (
 .pure [] (.idx 12) [g v 1,g l5 1] fun v7 =>
 .load [] v7 12 fun l8 =>
 .newbox fun r1 =>
 .chk (.eqN r1 r1) <|
 .chk (.eqN r1 r1) <|
 .pure [] (.bin .eql .int) [g l8 2,g v 39] fun v9 =>
 .br v9 (
 .chk (.eqN r1 r1) <|
 .call false 68 [g v 0,(.agg #[g l8 0,g l8 1,g l8 2,g l8 3,g l8 4,g l8 5,g l8 6,g l8 7,g l8 8,g l8 9,g l8 10,g l8 11])] [] [] .one fun l10 _ =>
 .br (g l10 0) (
 .sw (g v 39) 0 (
 .chk (.eqN r0 r0) <|
 .chk (.eqN r1 r1) <|
 .call false 69 [g v 9,g l8 0] [] [] .one fun l11 _ =>
 .br (g l11 0) (
 .chk (.eqN r1 r1) <|
 .newbox fun r2 =>
 .prim (.bi .append #[25,25] 25) [g l5 0,(.slice (some ⟨r2,0,none⟩) 1 1)] [⟨r2,3,[g l8 0]⟩] [] .one fun l12 _ =>
 .pure [] (.bin .add .int) [g l5 1,(.int .i64 1)] fun v13 =>
 .cont 15 C15 [g l12 0,v13] [E [g v 0],E [g v 39],E [(.pointer (some ⟨r0,0,none⟩))],E [g v 1],E [v4],E [(.pointer (some ⟨r0,0,none⟩)),g v 1,g v 2,g v 3,g v 4,g v 5,g v 6,g v 7,g v 8,g v 9,g v 10,g v 11,g v 12,g v 13,g v 14,g v 15,g v 16,g v 17,g v 18,g v 19,g v 20,g v 21,g v 22,g v 23,g v 24,g v 25,g v 26,g v 27,g v 28,g v 29,g v 30,g v 31,g v 32,g v 33,g v 34,g v 35,g v 36,g v 37,g v 38]]) (
 .pure [] (.bin .add .int) [g l5 1,(.int .i64 1)] fun v14 =>
 .cont 15 C15 [g l5 0,v14] [E [g v 0],E [g v 39],E [(.pointer (some ⟨r0,0,none⟩))],E [g v 1],E [v4],E [(.pointer (some ⟨r0,0,none⟩)),g v 1,g v 2,g v 3,g v 4,g v 5,g v 6,g v 7,g v 8,g v 9,g v 10,g v 11,g v 12,g v 13,g v 14,g v 15,g v 16,g v 17,g v 18,g v 19,g v 20,g v 21,g v 22,g v 23,g v 24,g v 25,g v 26,g v 27,g v 28,g v 29,g v 30,g v 31,g v 32,g v 33,g v 34,g v 35,g v 36,g v 37,g v 38]])) (
 .sw (g v 39) 1 (
 .chk (.eqN r0 r0) <|
 .chk (.eqN r1 r1) <|
 .call false 69 [g v 23,g l8 0] [] [] .one fun l15 _ =>
 .br (g l15 0) (
 .chk (.eqN r1 r1) <|
 .newbox fun r3 =>
 .prim (.bi .append #[25,25] 25) [g l5 0,(.slice (some ⟨r3,0,none⟩) 1 1)] [⟨r3,3,[g l8 0]⟩] [] .one fun l16 _ =>
 .pure [] (.bin .add .int) [g l5 1,(.int .i64 1)] fun v17 =>
 .cont 15 C15 [g l16 0,v17] [E [g v 0],E [g v 39],E [(.pointer (some ⟨r0,0,none⟩))],E [g v 1],E [v4],E [(.pointer (some ⟨r0,0,none⟩)),g v 1,g v 2,g v 3,g v 4,g v 5,g v 6,g v 7,g v 8,g v 9,g v 10,g v 11,g v 12,g v 13,g v 14,g v 15,g v 16,g v 17,g v 18,g v 19,g v 20,g v 21,g v 22,g v 23,g v 24,g v 25,g v 26,g v 27,g v 28,g v 29,g v 30,g v 31,g v 32,g v 33,g v 34,g v 35,g v 36,g v 37,g v 38]]) (
 .pure [] (.bin .add .int) [g l5 1,(.int .i64 1)] fun v18 =>
 .cont 15 C15 [g l5 0,v18] [E [g v 0],E [g v 39],E [(.pointer (some ⟨r0,0,none⟩))],E [g v 1],E [v4],E [(.pointer (some ⟨r0,0,none⟩)),g v 1,g v 2,g v 3,g v 4,g v 5,g v 6,g v 7,g v 8,g v 9,g v 10,g v 11,g v 12,g v 13,g v 14,g v 15,g v 16,g v 17,g v 18,g v 19,g v 20,g v 21,g v 22,g v 23,g v 24,g v 25,g v 26,g v 27,g v 28,g v 29,g v 30,g v 31,g v 32,g v 33,g v 34,g v 35,g v 36,g v 37,g v 38]])) (
 .stuck 901))) (
 .pure [] (.bin .add .int) [g l5 1,(.int .i64 1)] fun v19 =>
 .cont 15 C15 [g l5 0,v19] [E [g v 0],E [g v 39],E [(.pointer (some ⟨r0,0,none⟩))],E [g v 1],E [v4],E [(.pointer (some ⟨r0,0,none⟩)),g v 1,g v 2,g v 3,g v 4,g v 5,g v 6,g v 7,g v 8,g v 9,g v 10,g v 11,g v 12,g v 13,g v 14,g v 15,g v 16,g v 17,g v 18,g v 19,g v 20,g v 21,g v 22,g v 23,g v 24,g v 25,g v 26,g v 27,g v 28,g v 29,g v 30,g v 31,g v 32,g v 33,g v 34,g v 35,g v 36,g v 37,g v 38]])) (
 .pure [] (.bin .add .int) [g l5 1,(.int .i64 1)] fun v20 =>
 .cont 15 C15 [g l5 0,v20] [E [g v 0],E [g v 39],E [(.pointer (some ⟨r0,0,none⟩))],E [g v 1],E [v4],E [(.pointer (some ⟨r0,0,none⟩)),g v 1,g v 2,g v 3,g v 4,g v 5,g v 6,g v 7,g v 8,g v 9,g v 10,g v 11,g v 12,g v 13,g v 14,g v 15,g v 16,g v 17,g v 18,g v 19,g v 20,g v 21,g v 22,g v 23,g v 24,g v 25,g v 26,g v 27,g v 28,g v 29,g v 30,g v 31,g v 32,g v 33,g v 34,g v 35,g v 36,g v 37,g v 38]])) (
 .ret (g l5 0) [])))
theorem T_board_Creatures_eq (vs : List Value) : sxFun PP Tryz.f26 (mkOpts okL [(43, [5, 6, 7, 8])] [(5, .inv [7, 21] [0, 2, 4, 19, 20] [(4, [])])] []) vs = T_board_Creatures vs := by kernel_rfl
theorem run_board_Creatures {args vs} (ha : entryArgs PP Tryz.f26 args = some vs) (ho : Ones vs) {H O Q} (h : (T_board_Creatures vs).den PP Q H O) : Triple PP F_board_Creatures args H O Q :=
 triple_run mixed (mkOpts_ok okL_ok _ _ _) Tryz.func26 T_board_Creatures_eq ha ho h
abbrev F_board_Token : FuncId := 27
/- zeitnot/board.Token -/
def T_board_Token (v : List Value) : Tree :=
 .newbox fun r0 =>
 .newbox fun r1 =>
 .chk (.eqN r0 r0) <|
 .call false 11 [(.agg #[g v 0,g v 1,g v 2,g v 3,g v 4,g v 5,g v 6,g v 7,g v 8,g v 9,g v 10,g v 11,g v 12,g v 13,g v 14,g v 15,g v 16,g v 17,g v 18,g v 19,g v 20,g v 21,g v 22,g v 23,g v 24,g v 25,g v 26,g v 27,g v 28,g v 29,g v 30,g v 31,g v 32,g v 33,g v 34,g v 35,g v 36,g v 37])] [] [] .one fun l0 _ =>
 .pure [] .not [g l0 0] fun v1 =>
 .br v1 (
 .chk (.eqN r1 r1) <|
 .chk (.eqN r1 r1) <|
 .ret (.tuple #[(.agg #[(.slice none 0 0),(.int .i64 0),(.int .i64 0),(.int .i64 0),(.int .i64 0),(.int .i64 0),(.slice none 0 0),(.slice none 0 0),(.slice none 0 0),(.slice none 0 0),(.bool false),(.bool false),(.bool false),(.int .i64 0),(.int .i64 0),(.int .i64 0),(.int .i64 0),(.int .i64 0),(.int .i64 0),(.int .i64 0),(.slice none 0 0),(.slice none 0 0),(.slice none 0 0),(.slice none 0 0),(.bool false),(.bool false),(.bool false),(.int .i64 0),(.int .i64 0),(.slice none 0 0),(.slice none 0 0),(.slice none 0 0),(.slice none 0 0),(.int .i64 0),(.int .i64 0),(.int .i64 0),(.int .i64 0),(.int .i64 0)]),(.int .i64 0),(.int .i64 2)]) []) (
 .call false 44 [g v 38,(.int .i64 0),(.int .i64 1)] [] [] .one fun l2 _ =>
 .pure [] .not [g l2 0] fun v3 =>
 .br v3 (
 .chk (.eqN r1 r1) <|
 .chk (.eqN r1 r1) <|
 .ret (.tuple #[(.agg #[(.slice none 0 0),(.int .i64 0),(.int .i64 0),(.int .i64 0),(.int .i64 0),(.int .i64 0),(.slice none 0 0),(.slice none 0 0),(.slice none 0 0),(.slice none 0 0),(.bool false),(.bool false),(.bool false),(.int .i64 0),(.int .i64 0),(.int .i64 0),(.int .i64 0),(.int .i64 0),(.int .i64 0),(.int .i64 0),(.slice none 0 0),(.slice none 0 0),(.slice none 0 0),(.slice none 0 0),(.bool false),(.bool false),(.bool false),(.int .i64 0),(.int .i64 0),(.slice none 0 0),(.slice none 0 0),(.slice none 0 0),(.slice none 0 0),(.int .i64 0),(.int .i64 0),(.int .i64 0),(.int .i64 0),(.int .i64 0)]),(.int .i64 0),(.int .i64 2)]) []) (
 .chk (.eqN r0 r0) <|
 .call false 10 [(.agg #[g v 0,g v 1,g v 2,g v 3,g v 4,g v 5,g v 6,g v 7,g v 8,g v 9,g v 10,g v 11,g v 12,g v 13,g v 14,g v 15,g v 16,g v 17,g v 18,g v 19,g v 20,g v 21,g v 22,g v 23,g v 24,g v 25,g v 26,g v 27,g v 28,g v 29,g v 30,g v 31,g v 32,g v 33,g v 34,g v 35,g v 36,g v 37])] [] [] (.agg 38) fun l4 _ =>
 .chk (.eqN r0 r0) <|
 .chk (.eqN r0 r0) <|
 .pure [] .len [g l4 0] fun v5 =>
 .pure [] (.bin .geq .int) [v5,g v 41] fun v6 =>
 .br v6 (
 .chk (.eqN r0 r0) <|
 .chk (.eqN r1 r1) <|
 .chk (.eqN r1 r1) <|
 .ret (.tuple #[(.agg #[g l4 0,g l4 1,g l4 2,g l4 3,g l4 4,g l4 5,g l4 6,g l4 7,g l4 8,g l4 9,g l4 10,g l4 11,g l4 12,g l4 13,g l4 14,g l4 15,g l4 16,g l4 17,g l4 18,g l4 19,g l4 20,g l4 21,g l4 22,g l4 23,g l4 24,g l4 25,g l4 26,g l4 27,g l4 28,g l4 29,g l4 30,g l4 31,g l4 32,g l4 33,g l4 34,g l4 35,g l4 36,g l4 37]),(.int .i64 0),(.int .i64 0)]) []) (
 .call false 70 [(.int .i64 500)] [] [] (.tup [none,none]) fun l7 _ =>
 .chk (.eqN r0 r0) <|
 .pure [] .len [g l4 0] fun v8 =>
 .loop 30 8 [(.int .i64 0)] fun C30 l9 =>
 .pure [] (.bin .lss .int) [g l9 0,v8] fun v10 =>
 .br v10 (
 .pure [] (.idx 12) [g l4 0,g l9 0] fun v11 =>
 .load [] v11 12 fun l12 =>
 .newbox fun r2 =>
 .chk (.eqN r2 r2) <|
 .chk (.eqN r2 r2) <|
 .call false 71 [g l7 0,g l12 0] [] [] .one fun l13 _ =>
 .pure [] (.bin .add .int) [g l9 0,(.int .i64 1)] fun v14 =>
 .cont 30 C30 [v14] [E [g v 38],E [g v 39],E [g v 40],E [(.pointer (some ⟨r0,0,none⟩))],E [(.pointer (some ⟨r1,0,none⟩))],E [g l7 0],E [g l4 0],E [v8],E [(.pointer (some ⟨r0,0,none⟩)),g l4 0,g l4 1,g l4 2,g l4 3,g l4 4,g l4 5,g l4 6,g l4 7,g l4 8,g l4 9,g l4 10,g l4 11,g l4 12,g l4 13,g l4 14,g l4 15,g l4 16,g l4 17,g l4 18,g l4 19,g l4 20,g l4 21,g l4 22,g l4 23,g l4 24,g l4 25,g l4 26,g l4 27,g l4 28,g l4 29,g l4 30,g l4 31,g l4 32,g l4 33,g l4 34,g l4 35,g l4 36,g l4 37],E [(.pointer (some ⟨r1,0,none⟩)),(.slice none 0 0),(.int .i64 0),(.int .i64 0),(.int .i64 0),(.int .i64 0),(.int .i64 0),(.slice none 0 0),(.slice none 0 0),(.slice none 0 0),(.slice none 0 0),(.bool false),(.bool false),(.bool false),(.int .i64 0),(.int .i64 0),(.int .i64 0),(.int .i64 0),(.int .i64 0),(.int .i64 0),(.int .i64 0),(.slice none 0 0),(.slice none 0 0),(.slice none 0 0),(.slice none 0 0),(.bool false),(.bool false),(.bool false),(.int .i64 0),(.int .i64 0),(.slice none 0 0),(.slice none 0 0),(.slice none 0 0),(.slice none 0 0),(.int .i64 0),(.int .i64 0),(.int .i64 0),(.int .i64 0),(.int .i64 0)]]) (
 .call false 72 [g l7 0] [] [] (.tup [none,none]) fun l15 _ =>
 .pure [] (.bin .neq .int) [g l15 1,(.int .i64 0)] fun v16 =>
 .br v16 (
 .chk (.eqN r0 r0) <|
 .chk (.eqN r1 r1) <|
 .chk (.eqN r1 r1) <|
 .ret (.tuple #[(.agg #[g l4 0,g l4 1,g l4 2,g l4 3,g l4 4,g l4 5,g l4 6,g l4 7,g l4 8,g l4 9,g l4 10,g l4 11,g l4 12,g l4 13,g l4 14,g l4 15,g l4 16,g l4 17,g l4 18,g l4 19,g l4 20,g l4 21,g l4 22,g l4 23,g l4 24,g l4 25,g l4 26,g l4 27,g l4 28,g l4 29,g l4 30,g l4 31,g l4 32,g l4 33,g l4 34,g l4 35,g l4 36,g l4 37]),(.int .i64 0),(.int .i64 0)]) []) (
 .call false 73 [g l15 0,g v 38,g v 39,g v 40] [] [] (.agg 12) fun l17 _ =>
 .newbox fun r3 =>
 .chk (.eqN r3 r3) <|
 .chk (.eqN r3 r3) <|
 .chk (.eqN r0 r0) <|
 .pure [] (.bin .sub .int) [g l15 0,(.int .i64 1)] fun v18 =>
 .chk (.eqN r3 r3) <|
 .newbox fun r4 =>
 .call false 74 [g l4 0,v18,(.slice (some ⟨r4,0,none⟩) 1 1)] [⟨r4,40,[g l17 0,g l17 1,g l17 2,g l17 3,g l17 4,g l17 5,g l17 6,g l17 7,g l17 8,g l17 9,(.bool true),g l17 11]⟩] [] .one fun l19 _ =>
 .chk (.eqN r0 r0) <|
 .sw (g v 38) 0 (
 .chk (.eqN r0 r0) <|
 .newbox fun r5 =>
 .prim (.bi .append #[25,25] 25) [g l4 8,(.slice (some ⟨r5,0,none⟩) 1 1)] [⟨r5,3,[g l15 0]⟩] [] .one fun l20 _ =>
 .sw (g v 38) 0 (
 .chk (.eqN r0 r0) <|
 .chk (.eqN r0 r0) <|
 .chk (.eqN r1 r1) <|
 .chk (.eqN r1 r1) <|
 .ret (.tuple #[(.agg #[g l19 0,g l4 1,g l4 2,g l4 3,g l4 4,g l4 5,g l4 6,g l4 7,g l20 0,g l4 9,g l4 10,g l4 11,g l4 12,g l4 13,g l4 14,g l4 15,g l4 16,g l4 17,g l4 18,g l4 19,g l4 20,g l4 21,g l4 22,g l4 23,g l4 24,g l4 25,g l4 26,g l4 27,g l4 28,g l4 29,g l4 30,g l4 31,g l4 32,g l4 33,g l4 34,g l4 35,g l4 36,g l4 37]),g l15 0,(.int .i64 0)]) []) (
 .sw (g v 38) 1 (
 .chk (.eqN r0 r0) <|
 .chk (.eqN r0 r0) <|
 .chk (.eqN r1 r1) <|
 .chk (.eqN r1 r1) <|
 .ret (.tuple #[(.agg #[g l19 0,g l4 1,g l4 2,g l4 3,g l4 4,g l4 5,g l4 6,g l4 7,g l4 8,g l4 9,g l4 10,g l4 11,g l4 12,g l4 13,g l4 14,g l4 15,g l4 16,g l4 17,g l4 18,g l4 19,g l4 20,g l4 21,g l20 0,g l4 23,g l4 24,g l4 25,g l4 26,g l4 27,g l4 28,g l4 29,g l4 30,g l4 31,g l4 32,g l4 33,g l4 34,g l4 35,g l4 36,g l4 37]),g l15 0,(.int .i64 0)]) []) (
 .stuck 901))) (
 .sw (g v 38) 1 (
 .chk (.eqN r0 r0) <|
 .newbox fun r6 =>
 .prim (.bi .append #[25,25] 25) [g l4 22,(.slice (some ⟨r6,0,none⟩) 1 1)] [⟨r6,3,[g l15 0]⟩] [] .one fun l21 _ =>
 .sw (g v 38) 0 (
 .chk (.eqN r0 r0) <|
 .chk (.eqN r0 r0) <|
 .chk (.eqN r1 r1) <|
 .chk (.eqN r1 r1) <|
 .ret (.tuple #[(.agg #[g l19 0,g l4 1,g l4 2,g l4 3,g l4 4,g l4 5,g l4 6,g l4 7,g l21 0,g l4 9,g l4 10,g l4 11,g l4 12,g l4 13,g l4 14,g l4 15,g l4 16,g l4 17,g l4 18,g l4 19,g l4 20,g l4 21,g l4 22,g l4 23,g l4 24,g l4 25,g l4 26,g l4 27,g l4 28,g l4 29,g l4 30,g l4 31,g l4 32,g l4 33,g l4 34,g l4 35,g l4 36,g l4 37]),g l15 0,(.int .i64 0)]) []) (
 .sw (g v 38) 1 (
 .chk (.eqN r0 r0) <|
 .chk (.eqN r0 r0) <|
 .chk (.eqN r1 r1) <|
 .chk (.eqN r1 r1) <|
 .ret (.tuple #[(.agg #[g l19 0,g l4 1,g l4 2,g l4 3,g l4 4,g l4 5,g l4 6,g l4 7,g l4 8,g l4 9,g l4 10,g l4 11,g l4 12,g l4 13,g l4 14,g l4 15,g l4 16,g l4 17,g l4 18,g l4 19,g l4 20,g l4 21,g l21 0,g l4 23,g l4 24,g l4 25,g l4 26,g l4 27,g l4 28,g l4 29,g l4 30,g l4 31,g l4 32,g l4 33,g l4 34,g l4 35,g l4 36,g l4 37]),g l15 0,(.int .i64 0)]) []) (
 .stuck 901))) (
 .stuck 901)))))))
theorem T_board_Token_eq (vs : List Value) : sxFun PP Tryz.f27 (mkOpts okL [(43, [5, 6, 7, 8])] [(8, .inv [44] [1, 2, 3, 5, 10, 13, 42, 43] [(5, []), (10, [])])] []) vs = T_board_Token vs := by kernel_rfl
theorem run_board_Token {args vs} (ha : entryArgs PP Tryz.f27 args = some vs) (ho : Ones vs) {H O Q} (h : (T_board_Token vs).den PP Q H O) : Triple PP F_board_Token args H O Q :=
 triple_run mixed (mkOpts_ok okL_ok _ _ _) Tryz.func27 T_board_Token_eq ha ho h
abbrev F_zeitnotref15_Token : FuncId := 28
/- zeitnot/zeitnotref15.Token -/
def T_zeitnotref15_Token (v : List Value) : Tree :=
 .newbox fun r0 =>
 .newbox fun r1 =>
 .chk (.eqN r0 r0) <|
 .call false 9 [(.agg #[g v 0,g v 1,g v 2,g v 3,g v 4,g v 5,g v 6,g v 7,g v 8,g v 9,g v 10,g v 11,g v 12,g v 13,g v 14,g v 15,g v 16,g v 17,g v 18,g v 19,g v 20,g v 21,g v 22,g v 23,g v 24,g v 25,g v 26,g v 27,g v 28,g v 29,g v 30,g v 31,g v 32,g v 33,g v 34,g v 35,g v 36,g v 37])] [] [] (.agg 38) fun l0 _ =>
 .chk (.eqN r0 r0) <|
 .loop 7 3 [(.int .i64 1)] fun C7 l1 =>
 .chk (.eqN r0 r0) <|
 .call false 21 [(.agg #[g l0 0,g l0 1,g l0 2,g l0 3,g l0 4,g l0 5,g l0 6,g l0 7,g l0 8,g l0 9,g l0 10,g l0 11,g l0 12,g l0 13,g l0 14,g l0 15,g l0 16,g l0 17,g l0 18,g l0 19,g l0 20,g l0 21,g l0 22,g l0 23,g l0 24,g l0 25,g l0 26,g l0 27,g l0 28,g l0 29,g l0 30,g l0 31,g l0 32,g l0 33,g l0 34,g l0 35,g l0 36,g l0 37]),g l1 0] [] [] .one fun l2 _ =>
 .pure [] (.bin .geq .int) [g l2 0,(.int .i64 0)] fun v3 =>
 .br v3 (
 .pure [] (.bin .add .int) [g l1 0,(.int .i64 1)] fun v4 =>
 .cont 7 C7 [v4] [E [g v 38],E [g v 39],E [g v 40],E [g v 41],E [(.pointer (some ⟨r0,0,none⟩))],E [(.pointer (some ⟨r1,0,none⟩))],E [(.pointer (some ⟨r0,0,none⟩)),g l0 0,g l0 1,g l0 2,g l0 3,g l0 4,g l0 5,g l0 6,g l0 7,g l0 8,g l0 9,g l0 10,g l0 11,g l0 12,g l0 13,g l0 14,g l0 15,g l0 16,g l0 17,g l0 18,g l0 19,g l0 20,g l0 21,g l0 22,g l0 23,g l0 24,g l0 25,g l0 26,g l0 27,g l0 28,g l0 29,g l0 30,g l0 31,g l0 32,g l0 33,g l0 34,g l0 35,g l0 36,g l0 37],E [(.pointer (some ⟨r1,0,none⟩)),(.slice none 0 0),(.int .i64 0),(.int .i64 0),(.int .i64 0),(.int .i64 0),(.int .i64 0),(.slice none 0 0),(.slice none 0 0),(.slice none 0 0),(.slice none 0 0),(.bool false),(.bool false),(.bool false),(.int .i64 0),(.int .i64 0),(.int .i64 0),(.int .i64 0),(.int .i64 0),(.int .i64 0),(.int .i64 0),(.slice none 0 0),(.slice none 0 0),(.slice none 0 0),(.slice none 0 0),(.bool false),(.bool false),(.bool false),(.int .i64 0),(.int .i64 0),(.slice none 0 0),(.slice none 0 0),(.slice none 0 0),(.slice none 0 0),(.int .i64 0),(.int .i64 0),(.int .i64 0),(.int .i64 0),(.int .i64 0)]]) (
 .chk (.eqN r0 r0) <|
 .pure [] .len [g l0 0] fun v5 =>
 .pure [] (.bin .geq .int) [v5,g v 41] fun v6 =>
 .chk (.eqV v6 v6) <|
 .pure [] (.bin .gtr .int) [g l1 0,(.int .i64 500)] fun v7 =>
 .chk (.eqV v6 v6) <|
 .pure [] .pick [v6,(.bool true),v7] fun v8 =>
 .br v8 (
 .chk (.eqN r0 r0) <|
 .chk (.eqN r1 r1) <|
 .chk (.eqN r1 r1) <|
 .ret (.tuple #[(.agg #[g l0 0,g l0 1,g l0 2,g l0 3,g l0 4,g l0 5,g l0 6,g l0 7,g l0 8,g l0 9,g l0 10,g l0 11,g l0 12,g l0 13,g l0 14,g l0 15,g l0 16,g l0 17,g l0 18,g l0 19,g l0 20,g l0 21,g l0 22,g l0 23,g l0 24,g l0 25,g l0 26,g l0 27,g l0 28,g l0 29,g l0 30,g l0 31,g l0 32,g l0 33,g l0 34,g l0 35,g l0 36,g l0 37]),(.int .i64 0)]) []) (
 .call false 75 [(.int .i64 0),g v 39] [] [] .one fun l9 _ =>
 .call false 75 [(.int .i64 0),g v 40] [] [] .one fun l10 _ =>
 .newbox fun r2 =>
 .chk (.eqN r2 r2) <|
 .chk (.eqN r2 r2) <|
 .chk (.eqN r0 r0) <|
 .pure [] (.bin .sub .int) [g l1 0,(.int .i64 1)] fun v11 =>
 .pure [] (.slc 12 true false false) [g l0 0,v11] fun v12 =>
 .newbox fun r3 =>
 .prim (.bi .append #[22,22] 22) [(.slice (some ⟨r3,0,none⟩) 1 1),v12] [⟨r3,40,[g l1 0,(.int .i64 (-1)),g v 38,g l9 0,g l10 0,(.int .i64 0),(.int .i64 0),(.int .i64 0),(.int .i64 0),(.bool false),(.bool true),(.bool false)]⟩] [] .one fun l13 _ =>
 .chk (.eqN r0 r0) <|
 .pure [] (.bin .sub .int) [g l1 0,(.int .i64 1)] fun v14 =>
 .pure [] (.slc 12 false true false) [g l0 0,v14] fun v15 =>
 .prim (.bi .append #[22,22] 22) [(.slice none 0 0),v15] [] [] .one fun l16 _ =>
 .prim (.bi .append #[22,22] 22) [g l16 0,g l13 0] [] [] .one fun l17 _ =>
 .chk (.eqN r0 r0) <|
 .chk (.eqN r0 r0) <|
 .chk (.eqN r2 r2) <|
 .call false 76 [(.agg #[g l17 0,g l0 1,g l0 2,g l0 3,g l0 4,g l0 5,g l0 6,g l0 7,g l0 8,g l0 9,g l0 10,g l0 11,g l0 12,g l0 13,g l0 14,g l0 15,g l0 16,g l0 17,g l0 18,g l0 19,g l0 20,g l0 21,g l0 22,g l0 23,g l0 24,g l0 25,g l0 26,g l0 27,g l0 28,g l0 29,g l0 30,g l0 31,g l0 32,g l0 33,g l0 34,g l0 35,g l0 36,g l0 37]),(.agg #[g l1 0,(.int .i64 (-1)),g v 38,g l9 0,g l10 0,(.int .i64 0),(.int .i64 0),(.int .i64 0),(.int .i64 0),(.bool false),(.bool true),(.bool false)]),(.int .i64 2)] [] [] (.agg 38) fun l18 _ =>
 .chk (.eqN r1 r1) <|
 .chk (.eqN r1 r1) <|
 .ret (.tuple #[(.agg #[g l18 0,g l18 1,g l18 2,g l18 3,g l18 4,g l18 5,g l18 6,g l18 7,g l18 8,g l18 9,g l18 10,g l18 11,g l18 12,g l18 13,g l18 14,g l18 15,g l18 16,g l18 17,g l18 18,g l18 19,g l18 20,g l18 21,g l18 22,g l18 23,g l18 24,g l18 25,g l18 26,g l18 27,g l18 28,g l18 29,g l18 30,g l18 31,g l18 32,g l18 33,g l18 34,g l18 35,g l18 36,g l18 37]),g l1 0]) []))
theorem T_zeitnotref15_Token_eq (vs : List Value) : sxFun PP Tryz.f28 (mkOpts okL [(43, [5, 6, 7, 8])] [(3, .inv [12] [1, 2, 3, 4, 5, 10] [(5, []), (10, [])])] []) vs = T_zeitnotref15_Token vs := by kernel_rfl
theorem run_zeitnotref15_Token {args vs} (ha : entryArgs PP Tryz.f28 args = some vs) (ho : Ones vs) {H O Q} (h : (T_zeitnotref15_Token vs).den PP Q H O) : Triple PP F_zeitnotref15_Token args H O Q :=
 triple_run mixed (mkOpts_ok okL_ok _ _ _) Tryz.func28 T_zeitnotref15_Token_eq ha ho h
abbrev F_zeitnotref15_Zones : FuncId := 35
/- zeitnot/zeitnotref15.Zones -/
def T_zeitnotref15_Zones (v : List Value) : Tree :=
 .newbox fun r0 =>
 .newbox fun r1 =>
 .chk (.eqN r0 r0) <|
 .chk (.eqN r0 r0) <|
 .chk (.eqN r0 r0) <|
 .chk (.eqN r0 r0) <|
 .chk (.eqN r1 r1) <|
 .chk (.eqN r1 r1) <|
 .ret (.agg #[g v 5,g v 6,g v 7,g v 8]) []
theorem T_zeitnotref15_Zones_eq (vs : List Value) : sxFun PP Tryz.f35 (mkOpts okL [(43, [5, 6, 7, 8])] [] []) vs = T_zeitnotref15_Zones vs := by kernel_rfl
theorem run_zeitnotref15_Zones {args vs} (ha : entryArgs PP Tryz.f35 args = some vs) (ho : Ones vs) {H O Q} (h : (T_zeitnotref15_Zones vs).den PP Q H O) : Triple PP F_zeitnotref15_Zones args H O Q :=
 triple_run mixed (mkOpts_ok okL_ok _ _ _) Tryz.func35 T_zeitnotref15_Zones_eq ha ho h
abbrev F_zeitnotref15_copied : FuncId := 38
/- zeitnot/zeitnotref15.copied -/
def T_zeitnotref15_copied (v : List Value) : Tree :=
 .loop 3 3 [(.slice none 0 0),(.int .i64 0)] fun C3 l0 =>
 .pure [] .len [g v 0] fun v1 =>
 .pure [] (.bin .lss .int) [g l0 1,v1] fun v2 =>
 .br v2 (
 .pure [] (.idx 5) [g v 0,g l0 1] fun v3 =>
 .load [] v3 5 fun l4 =>
 .newbox fun r0 =>
 .chk (.eqN r0 r0) <|
 .chk (.eqN r0 r0) <|
 .prim (.bi .append #[75,75] 75) [(.slice none 0 0),g l4 4] [] [] .one fun l5 _ =>
 .chk (.eqN r0 r0) <|
 .chk (.eqN r0 r0) <|
 .newbox fun r1 =>
 .prim (.bi .append #[29,29] 29) [g l0 0,(.slice (some ⟨r1,0,none⟩) 1 1)] [⟨r1,77,[g l4 0,g l4 1,g l4 2,g l4 3,g l5 0]⟩] [] .one fun l6 _ =>
 .pure [] (.bin .add .int) [g l0 1,(.int .i64 1)] fun v7 =>
 .cont 3 C3 [g l6 0,v7] [E [g v 0]]) (
 .ret (g l0 0) [])
theorem T_zeitnotref15_copied_eq (vs : List Value) : sxFun PP Tryz.f38 (mkOpts okL [(43, [5, 6, 7, 8])] [(3, .inv [3, 4] [0] [])] []) vs = T_zeitnotref15_copied vs := by kernel_rfl
theorem run_zeitnotref15_copied {args vs} (ha : entryArgs PP Tryz.f38 args = some vs) (ho : Ones vs) {H O Q} (h : (T_zeitnotref15_copied vs).den PP Q H O) : Triple PP F_zeitnotref15_copied args H O Q :=
 triple_run mixed (mkOpts_ok okL_ok _ _ _) Tryz.func38 T_zeitnotref15_copied_eq ha ho h
abbrev F_slices_Clone_api_Object_api_Object : FuncId := 39
/- slices.Clone[[]zeitnot/api.Object,zeitnot/api.Object] -/
def T_slices_Clone_api_Object_api_Object (v : List Value) : Tree :=
 .pure [] (.bin .eql .slice) [g v 0,(.slice none 0 0)] fun v0 =>
 .br v0 (
 .ret (.slice none 0 0) []) (
 .newbox fun r0 =>
 .prim (.bi .append #[22,22] 22) [(.slice (some ⟨r0,0,none⟩) 0 0),g v 0] [⟨r0,40,[]⟩] [] .one fun l1 _ =>
 .ret (g l1 0) [])
theorem T_slices_Clone_api_Object_api_Object_eq (vs : List Value) : sxFun PP Tryz.f39 (mkOpts okL [(43, [5, 6, 7, 8])] [] []) vs = T_slices_Clone_api_Object_api_Object vs := by kernel_rfl
theorem run_slices_Clone_api_Object_api_Object {args vs} (ha : entryArgs PP Tryz.f39 args = some vs) (ho : Ones vs) {H O Q} (h : (T_slices_Clone_api_Object_api_Object vs).den PP Q H O) : Triple PP F_slices_Clone_api_Object_api_Object args H O Q :=
 triple_run mixed (mkOpts_ok okL_ok _ _ _) Tryz.func39 T_slices_Clone_api_Object_api_Object_eq ha ho h
abbrev F_slices_Clone_int_int : FuncId := 40
/- slices.Clone[[]int,int] -/
def T_slices_Clone_int_int (v : List Value) : Tree :=
 .pure [] (.bin .eql .slice) [g v 0,(.slice none 0 0)] fun v0 =>
 .br v0 (
 .ret (.slice none 0 0) []) (
 .newbox fun r0 =>
 .prim (.bi .append #[25,25] 25) [(.slice (some ⟨r0,0,none⟩) 0 0),g v 0] [⟨r0,3,[]⟩] [] .one fun l1 _ =>
 .ret (g l1 0) [])
theorem T_slices_Clone_int_int_eq (vs : List Value) : sxFun PP Tryz.f40 (mkOpts okL [(43, [5, 6, 7, 8])] [] []) vs = T_slices_Clone_int_int vs := by kernel_rfl
theorem run_slices_Clone_int_int {args vs} (ha : entryArgs PP Tryz.f40 args = some vs) (ho : Ones vs) {H O Q} (h : (T_slices_Clone_int_int vs).den PP Q H O) : Triple PP F_slices_Clone_int_int args H O Q :=
 triple_run mixed (mkOpts_ok okL_ok _ _ _) Tryz.func40 T_slices_Clone_int_int_eq ha ho h
abbrev F_slices_Clone_api_Block_api_Block : FuncId := 41
/- slices.Clone[[]zeitnot/api.Block,zeitnot/api.Block] -/
def T_slices_Clone_api_Block_api_Block (v : List Value) : Tree :=
 .pure [] (.bin .eql .slice) [g v 0,(.slice none 0 0)] fun v0 =>
 .br v0 (
 .ret (.slice none 0 0) []) (
 .newbox fun r0 =>
 .prim (.bi .append #[30,30] 30) [(.slice (some ⟨r0,0,none⟩) 0 0),g v 0] [⟨r0,89,[]⟩] [] .one fun l1 _ =>
 .ret (g l1 0) [])
theorem T_slices_Clone_api_Block_api_Block_eq (vs : List Value) : sxFun PP Tryz.f41 (mkOpts okL [(43, [5, 6, 7, 8])] [] []) vs = T_slices_Clone_api_Block_api_Block vs := by kernel_rfl
theorem run_slices_Clone_api_Block_api_Block {args vs} (ha : entryArgs PP Tryz.f41 args = some vs) (ho : Ones vs) {H O Q} (h : (T_slices_Clone_api_Block_api_Block vs).den PP Q H O) : Triple PP F_slices_Clone_api_Block_api_Block args H O Q :=
 triple_run mixed (mkOpts_ok okL_ok _ _ _) Tryz.func41 T_slices_Clone_api_Block_api_Block_eq ha ho h
abbrev F_board_items : FuncId := 42
/- zeitnot/board.items -/
def T_board_items (v : List Value) : Tree :=
 .call false 84 [g v 0] [] [] .one fun l0 _ =>
 .pure [] .len [g l0 0] fun v1 =>
 .loop 7 3 [(.int .i64 0)] fun C7 l2 =>
 .pure [] (.bin .lss .int) [g l2 0,v1] fun v3 =>
 .br v3 (
 .pure [] (.idx 5) [g l0 0,g l2 0] fun v4 =>
 .chk (.ptr [] v4) <|
 .load [] (ptrAdd v4 4) 1 fun l5 =>
 .call false 85 [g l5 0] [] [] .one fun l6 _ =>
 .pure [] (.idx 5) [g l0 0,g l2 0] fun v7 =>
 .chk (.ptr [] v7) <|
 .chk (.ptr [] (ptrAdd v7 4)) <|
 .store (ptrAdd v7 4) [g l6 0] <|
 .pure [] (.bin .add .int) [g l2 0,(.int .i64 1)] fun v8 =>
 .cont 7 C7 [v8] [E [g l0 0],E [v1]]) (
 .ret (g l0 0) [])
theorem T_board_items_eq (vs : List Value) : sxFun PP Tryz.f42 (mkOpts okL [(43, [5, 6, 7, 8])] [(3, .inv [9] [3, 8] [])] []) vs = T_board_items vs := by kernel_rfl
theorem run_board_items {args vs} (ha : entryArgs PP Tryz.f42 args = some vs) (ho : Ones vs) {H O Q} (h : (T_board_items vs).den PP Q H O) : Triple PP F_board_items args H O Q :=
 triple_run mixed (mkOpts_ok okL_ok _ _ _) Tryz.func42 T_board_items_eq ha ho h
abbrev F_board_lists : FuncId := 43
/- zeitnot/board.lists -/
def T_board_lists (v : List Value) : Tree :=
 .newbox fun r0 =>
 .chk (.ptr [] (g v 0)) <|
 .chk (.ptr [] (g v 0)) <|
 .chk (.ptr [] (g v 0)) <|
 .chk (.ptr [] (g v 0)) <|
 .chk (.ptr [] (g v 0)) <|
 .chk (.ptr [] (g v 0)) <|
 .chk (.ptr [] (g v 0)) <|
 .chk (.ptr [] (g v 0)) <|
 .chk (.eqN r0 r0) <|
 .chk (.eqN r0 r0) <|
 .ret (.agg #[(ptrAdd (g v 0) 5),(ptrAdd (g v 0) 6),(ptrAdd (g v 0) 7),(ptrAdd (g v 0) 8)]) []
theorem T_board_lists_eq (vs : List Value) : sxFun PP Tryz.f43 (mkOpts okL [(43, [5, 6, 7, 8])] [] []) vs = T_board_lists vs := by kernel_rfl
theorem run_board_lists {args vs} (ha : entryArgs PP Tryz.f43 args = some vs) (ho : Ones vs) {H O Q} (h : (T_board_lists vs).den PP Q H O) : Triple PP F_board_lists args H O Q :=
 triple_run mixed (mkOpts_ok okL_ok _ _ _) Tryz.func43 T_board_lists_eq ha ho h
abbrev F_board_within : FuncId := 44
/- zeitnot/board.within -/
def T_board_within (v : List Value) : Tree :=
 .pure [] (.bin .geq .int) [g v 0,g v 1] fun v0 =>
 .chk (.eqV v0 v0) <|
 .chk (.eqV v0 v0) <|
 .pure [] (.bin .leq .int) [g v 0,g v 2] fun v1 =>
 .chk (.eqV v0 v0) <|
 .pure [] .pick [v0,v1,(.bool false)] fun v2 =>
 .ret v2 []
theorem T_board_within_eq (vs : List Value) : sxFun PP Tryz.f44 (mkOpts okL [(43, [5, 6, 7, 8])] [] []) vs = T_board_within vs := by kernel_rfl
theorem run_board_within {args vs} (ha : entryArgs PP Tryz.f44 args = some vs) (ho : Ones vs) {H O Q} (h : (T_board_within vs).den PP Q H O) : Triple PP F_board_within args H O Q :=
 triple_run mixed (mkOpts_ok okL_ok _ _ _) Tryz.func44 T_board_within_eq ha ho h
abbrev F_mana_Valid : FuncId := 45
/- zeitnot/mana.Valid -/
def T_mana_Valid (v : List Value) : Tree :=
 .newbox fun r0 =>
 .chk (.eqN r0 r0) <|
 .call false 86 [(.agg #[g v 0,g v 1,g v 2,g v 3]),(.int .i64 99)] [] [] .one fun l0 _ =>
 .ret (g l0 0) []
theorem T_mana_Valid_eq (vs : List Value) : sxFun PP Tryz.f45 (mkOpts okL [(43, [5, 6, 7, 8])] [] []) vs = T_mana_Valid vs := by kernel_rfl
theorem run_mana_Valid {args vs} (ha : entryArgs PP Tryz.f45 args = some vs) (ho : Ones vs) {H O Q} (h : (T_mana_Valid vs).den PP Q H O) : Triple PP F_mana_Valid args H O Q :=
 triple_run mixed (mkOpts_ok okL_ok _ _ _) Tryz.func45 T_mana_Valid_eq ha ho h
abbrev F_slices_ContainsFunc_api_Item_api_Item : FuncId := 46
/- slices.ContainsFunc[[]zeitnot/api.Item,zeitnot/api.Item] -/
def T_slices_ContainsFunc_api_Item_api_Item (v : List Value) : Tree :=
 .call false 87 [g v 0,g v 1] [] [] .one fun l0 _ =>
 .pure [] (.bin .geq .int) [g l0 0,(.int .i64 0)] fun v1 =>
 .ret v1 []
theorem T_slices_ContainsFunc_api_Item_api_Item_eq (vs : List Value) : sxFun PP Tryz.f46 (mkOpts okL [(43, [5, 6, 7, 8])] [] []) vs = T_slices_ContainsFunc_api_Item_api_Item vs := by kernel_rfl
theorem run_slices_ContainsFunc_api_Item_api_Item {args vs} (ha : entryArgs PP Tryz.f46 args = some vs) (ho : Ones vs) {H O Q} (h : (T_slices_ContainsFunc_api_Item_api_Item vs).den PP Q H O) : Triple PP F_slices_ContainsFunc_api_Item_api_Item args H O Q :=
 triple_run mixed (mkOpts_ok okL_ok _ _ _) Tryz.func46 T_slices_ContainsFunc_api_Item_api_Item_eq ha ho h
abbrev F_board_Valid_1 : FuncId := 47
/- zeitnot/board.Valid$1 -/
def T_board_Valid_1 (v : List Value) : Tree :=
 .newbox fun r0 =>
 .chk (.eqN r0 r0) <|
 .call false 48 [(.agg #[g v 0,g v 1,g v 2,g v 3,g v 4]),(.bool false)] [] [] .one fun l0 _ =>
 .pure [] .not [g l0 0] fun v1 =>
 .ret v1 []
theorem T_board_Valid_1_eq (vs : List Value) : sxFun PP Tryz.f47 (mkOpts okL [(43, [5, 6, 7, 8])] [] []) vs = T_board_Valid_1 vs := by kernel_rfl
theorem run_board_Valid_1 {args vs} (ha : entryArgs PP Tryz.f47 args = some vs) (ho : Ones vs) {H O Q} (h : (T_board_Valid_1 vs).den PP Q H O) : Triple PP F_board_Valid_1 args H O Q :=
 triple_run mixed (mkOpts_ok okL_ok _ _ _) Tryz.func47 T_board_Valid_1_eq ha ho h
abbrev F_board_fine : FuncId := 48
/- zeitnot/board.fine -/
def T_board_fine (v : List Value) : Tree :=
 .newbox fun r0 =>
 .chk (.eqN r0 r0) <|
 .call false 44 [g v 0,(.int .i64 0),(.int .i64 1)] [] [] .one fun l0 _ =>
 .br (g l0 0) (
 .chk (.eqN r0 r0) <|
 .call false 44 [g v 1,(.int .i64 1),(.int .i64 500)] [] [] .one fun l1 _ =>
 .br (g l1 0) (
 .chk (.eqN r0 r0) <|
 .call false 44 [g v 2,(.int .i64 0),(.int .i64 399)] [] [] .one fun l2 _ =>
 .br (g l2 0) (
 .chk (.eqN r0 r0) <|
 .call false 44 [g v 3,(.int .i64 (-1)),(.int .i64 1)] [] [] .one fun l3 _ =>
 .pure [] .not [g l3 0] fun v4 =>
 .chk (.eqN r0 r0) <|
 .chk (.eqV v4 v4) <|
 .chk (.eqV v4 v4) <|
 .pure [] .len [g v 4] fun v5 =>
 .chk (.eqV v4 v4) <|
 .pure [] (.bin .gtr .int) [v5,(.int .i64 4)] fun v6 =>
 .chk (.eqV v4 v4) <|
 .pure [] .pick [v4,(.bool true),v6] fun v7 =>
 .chk (.eqN r0 r0) <|
 .chk (.eqV v7 v7) <|
 .chk (.eqV v7 v7) <|
 .pure [] (.bin .geq .int) [g v 3,(.int .i64 0)] fun v8 =>
 .chk (.eqV v7 v7) <|
 .chk (.eqN r0 r0) <|
 .chk (.eqV v8 v8) <|
 .chk (.eqV v7 v7) <|
 .chk (.eqV v8 v8) <|
 .chk (.eqV v7 v7) <|
 .pure [] .len [g v 4] fun v9 =>
 .chk (.eqV v8 v8) <|
 .chk (.eqV v7 v7) <|
 .pure [] (.bin .gtr .int) [v9,(.int .i64 0)] fun v10 =>
 .chk (.eqV v7 v7) <|
 .chk (.eqV v8 v8) <|
 .chk (.eqV v7 v7) <|
 .pure [] .pick [v8,v10,(.bool false)] fun v11 =>
 .chk (.eqV v7 v7) <|
 .pure [] .pick [v7,(.bool true),v11] fun v12 =>
 .chk (.eqV v12 v12) <|
 .chk (.eqN r0 r0) <|
 .chk (.eqV (g v 5) (g v 5)) <|
 .chk (.eqV v12 v12) <|
 .chk (.eqV (g v 5) (g v 5)) <|
 .chk (.eqV v12 v12) <|
 .pure [] (.bin .lss .int) [g v 3,(.int .i64 0)] fun v13 =>
 .chk (.eqV v12 v12) <|
 .chk (.eqV (g v 5) (g v 5)) <|
 .chk (.eqV v12 v12) <|
 .pure [] .pick [g v 5,v13,(.bool false)] fun v14 =>
 .chk (.eqV v12 v12) <|
 .pure [] .pick [v12,(.bool true),v14] fun v15 =>
 .br v15 (
 .ret (.bool false) []) (
 .chk (.eqN r0 r0) <|
 .call false 88 [g v 4,(.func (.func 89) #[] #[])] [] [] .one fun l16 _ =>
 .pure [] .not [g l16 0] fun v17 =>
 .ret v17 [])) (
 .ret (.bool false) [])) (
 .ret (.bool false) [])) (
 .ret (.bool false) [])
theorem T_board_fine_eq (vs : List Value) : sxFun PP Tryz.f48 (mkOpts okL [(43, [5, 6, 7, 8])] [] []) vs = T_board_fine vs := by kernel_rfl
theorem run_board_fine {args vs} (ha : entryArgs PP Tryz.f48 args = some vs) (ho : Ones vs) {H O Q} (h : (T_board_fine vs).den PP Q H O) : Triple PP F_board_fine args H O Q :=
 triple_run mixed (mkOpts_ok okL_ok _ _ _) Tryz.func48 T_board_fine_eq ha ho h
abbrev F_board_Valid_2 : FuncId := 49
/- zeitnot/board.Valid$2 -/
def T_board_Valid_2 (v : List Value) : Tree :=
 .newbox fun r0 =>
 .chk (.eqN r0 r0) <|
 .call false 48 [(.agg #[g v 0,g v 1,g v 2,g v 3,g v 4]),(.bool true)] [] [] .one fun l0 _ =>
 .pure [] .not [g l0 0] fun v1 =>
 .ret v1 []
theorem T_board_Valid_2_eq (vs : List Value) : sxFun PP Tryz.f49 (mkOpts okL [(43, [5, 6, 7, 8])] [] []) vs = T_board_Valid_2 vs := by kernel_rfl
theorem run_board_Valid_2 {args vs} (ha : entryArgs PP Tryz.f49 args = some vs) (ho : Ones vs) {H O Q} (h : (T_board_Valid_2 vs).den PP Q H O) : Triple PP F_board_Valid_2 args H O Q :=
 triple_run mixed (mkOpts_ok okL_ok _ _ _) Tryz.func49 T_board_Valid_2_eq ha ho h
abbrev F_board_placed : FuncId := 50
/- zeitnot/board.placed -/
def T_board_placed (v : List Value) : Tree :=
 .newbox fun r0 =>
 .prim (.makeMap 129 false) [] [] [] .one fun l0 _ =>
 .newbox fun r1 =>
 .chk (.eqN r1 r1) <|
 .call false 43 [(.pointer (some ⟨r0,1,none⟩))] [] [] (.agg 4) fun l1 _ =>
 .chk (.eqV (g l1 0) (.pointer (some ⟨r0,6,none⟩))) <|
 .chk (.eqV (g l1 1) (.pointer (some ⟨r0,7,none⟩))) <|
 .chk (.eqV (g l1 2) (.pointer (some ⟨r0,8,none⟩))) <|
 .chk (.eqV (g l1 3) (.pointer (some ⟨r0,9,none⟩))) <|
 .chk (.eqN r0 r0) <|
 .pure [] .len [g v 6] fun v2 =>
 .loop 24 10 [(.int .i64 0),g l0 0] fun C24 l3 =>
 .pure [] (.bin .lss .int) [g l3 0,v2] fun v4 =>
 .br v4 (
 .pure [] (.idx 1) [g v 6,g l3 0] fun v5 =>
 .load [] v5 1 fun l6 =>
 .call false 91 [g l6 0,(.int .i64 0),(.pointer (some ⟨r1,0,none⟩))] [] [⟨r1,129,[g l3 1]⟩] .one fun l7 c7 =>
 .pure [] .not [g l7 0] fun v8 =>
 .br v8 (
 .ret (.bool false) []) (
 .pure [] (.bin .add .int) [g l3 0,(.int .i64 1)] fun v9 =>
 .cont 24 C24 [v9,(g (c7.getD 0 []) 0)] [E [(.pointer (some ⟨r0,0,none⟩))],E [(.pointer (some ⟨r1,0,none⟩))],E [(.func (.func 91) #[] #[(.pointer (some ⟨r1,0,none⟩))])],E [(.int .i64 0)],E [(.int .i64 0)],E [(.pointer (some ⟨r0,6,none⟩)),(.pointer (some ⟨r0,7,none⟩)),(.pointer (some ⟨r0,8,none⟩)),(.pointer (some ⟨r0,9,none⟩))],E [(.int .i64 0)],E [g v 6],E [v2],E [(.pointer (some ⟨r0,0,none⟩)),g v 0,g v 1,g v 2,g v 3,g v 4,g v 5,g v 6,g v 7,g v 8,g v 9,g v 10,g v 11,g v 12,g v 13,g v 14,g v 15,g v 16,g v 17,g v 18,g v 19,g v 20,g v 21,g v 22,g v 23,g v 24,g v 25,g v 26,g v 27,g v 28,g v 29,g v 30,g v 31,g v 32,g v 33,g v 34,g v 35,g v 36,g v 37],E [(.pointer (some ⟨r1,0,none⟩)),(.tuple #[])]])) (
 .chk (.eqN r0 r0) <|
 .pure [] .len [g v 7] fun v10 =>
 .loop 36 10 [(.int .i64 0),g l3 1] fun C36 l11 =>
 .pure [] (.bin .lss .int) [g l11 0,v10] fun v12 =>
 .br v12 (
 .pure [] (.idx 1) [g v 7,g l11 0] fun v13 =>
 .load [] v13 1 fun l14 =>
 .call false 91 [g l14 0,(.int .i64 0),(.pointer (some ⟨r1,0,none⟩))] [] [⟨r1,129,[g l11 1]⟩] .one fun l15 c15 =>
 .pure [] .not [g l15 0] fun v16 =>
 .br v16 (
 .ret (.bool false) []) (
 .pure [] (.bin .add .int) [g l11 0,(.int .i64 1)] fun v17 =>
 .cont 36 C36 [v17,(g (c15.getD 0 []) 0)] [E [(.pointer (some ⟨r0,0,none⟩))],E [(.pointer (some ⟨r1,0,none⟩))],E [(.func (.func 91) #[] #[(.pointer (some ⟨r1,0,none⟩))])],E [(.int .i64 0)],E [(.int .i64 0)],E [(.pointer (some ⟨r0,6,none⟩)),(.pointer (some ⟨r0,7,none⟩)),(.pointer (some ⟨r0,8,none⟩)),(.pointer (some ⟨r0,9,none⟩))],E [(.int .i64 1)],E [g v 7],E [v10],E [(.pointer (some ⟨r0,0,none⟩)),g v 0,g v 1,g v 2,g v 3,g v 4,g v 5,g v 6,g v 7,g v 8,g v 9,g v 10,g v 11,g v 12,g v 13,g v 14,g v 15,g v 16,g v 17,g v 18,g v 19,g v 20,g v 21,g v 22,g v 23,g v 24,g v 25,g v 26,g v 27,g v 28,g v 29,g v 30,g v 31,g v 32,g v 33,g v 34,g v 35,g v 36,g v 37],E [(.pointer (some ⟨r1,0,none⟩)),(.tuple #[])]])) (
 .chk (.eqN r0 r0) <|
 .pure [] .len [g v 8] fun v18 =>
 .loop 48 10 [(.int .i64 0),g l11 1] fun C48 l19 =>
 .pure [] (.bin .lss .int) [g l19 0,v18] fun v20 =>
 .br v20 (
 .pure [] (.idx 1) [g v 8,g l19 0] fun v21 =>
 .load [] v21 1 fun l22 =>
 .call false 91 [g l22 0,(.int .i64 0),(.pointer (some ⟨r1,0,none⟩))] [] [⟨r1,129,[g l19 1]⟩] .one fun l23 c23 =>
 .pure [] .not [g l23 0] fun v24 =>
 .br v24 (
 .ret (.bool false) []) (
 .pure [] (.bin .add .int) [g l19 0,(.int .i64 1)] fun v25 =>
 .cont 48 C48 [v25,(g (c23.getD 0 []) 0)] [E [(.pointer (some ⟨r0,0,none⟩))],E [(.pointer (some ⟨r1,0,none⟩))],E [(.func (.func 91) #[] #[(.pointer (some ⟨r1,0,none⟩))])],E [(.int .i64 0)],E [(.int .i64 0)],E [(.pointer (some ⟨r0,6,none⟩)),(.pointer (some ⟨r0,7,none⟩)),(.pointer (some ⟨r0,8,none⟩)),(.pointer (some ⟨r0,9,none⟩))],E [(.int .i64 2)],E [g v 8],E [v18],E [(.pointer (some ⟨r0,0,none⟩)),g v 0,g v 1,g v 2,g v 3,g v 4,g v 5,g v 6,g v 7,g v 8,g v 9,g v 10,g v 11,g v 12,g v 13,g v 14,g v 15,g v 16,g v 17,g v 18,g v 19,g v 20,g v 21,g v 22,g v 23,g v 24,g v 25,g v 26,g v 27,g v 28,g v 29,g v 30,g v 31,g v 32,g v 33,g v 34,g v 35,g v 36,g v 37],E [(.pointer (some ⟨r1,0,none⟩)),(.tuple #[])]])) (
 .chk (.eqN r0 r0) <|
 .pure [] .len [g v 9] fun v26 =>
 .loop 60 10 [(.int .i64 0),g l19 1] fun C60 l27 =>
 .pure [] (.bin .lss .int) [g l27 0,v26] fun v28 =>
 .br v28 (
 .pure [] (.idx 1) [g v 9,g l27 0] fun v29 =>
 .load [] v29 1 fun l30 =>
 .call false 91 [g l30 0,(.int .i64 0),(.pointer (some ⟨r1,0,none⟩))] [] [⟨r1,129,[g l27 1]⟩] .one fun l31 c31 =>
 .pure [] .not [g l31 0] fun v32 =>
 .br v32 (
 .ret (.bool false) []) (
 .pure [] (.bin .add .int) [g l27 0,(.int .i64 1)] fun v33 =>
 .cont 60 C60 [v33,(g (c31.getD 0 []) 0)] [E [(.pointer (some ⟨r0,0,none⟩))],E [(.pointer (some ⟨r1,0,none⟩))],E [(.func (.func 91) #[] #[(.pointer (some ⟨r1,0,none⟩))])],E [(.int .i64 0)],E [(.int .i64 0)],E [(.pointer (some ⟨r0,6,none⟩)),(.pointer (some ⟨r0,7,none⟩)),(.pointer (some ⟨r0,8,none⟩)),(.pointer (some ⟨r0,9,none⟩))],E [(.int .i64 3)],E [g v 9],E [v26],E [(.pointer (some ⟨r0,0,none⟩)),g v 0,g v 1,g v 2,g v 3,g v 4,g v 5,g v 6,g v 7,g v 8,g v 9,g v 10,g v 11,g v 12,g v 13,g v 14,g v 15,g v 16,g v 17,g v 18,g v 19,g v 20,g v 21,g v 22,g v 23,g v 24,g v 25,g v 26,g v 27,g v 28,g v 29,g v 30,g v 31,g v 32,g v 33,g v 34,g v 35,g v 36,g v 37],E [(.pointer (some ⟨r1,0,none⟩)),(.tuple #[])]])) (
 .call false 43 [(.pointer (some ⟨r0,15,none⟩))] [] [] (.agg 4) fun l34 _ =>
 .chk (.eqV (g l34 0) (.pointer (some ⟨r0,20,none⟩))) <|
 .chk (.eqV (g l34 1) (.pointer (some ⟨r0,21,none⟩))) <|
 .chk (.eqV (g l34 2) (.pointer (some ⟨r0,22,none⟩))) <|
 .chk (.eqV (g l34 3) (.pointer (some ⟨r0,23,none⟩))) <|
 .chk (.eqN r0 r0) <|
 .pure [] .len [g v 20] fun v35 =>
 .loop 83 10 [(.int .i64 0),g l27 1] fun C83 l36 =>
 .pure [] (.bin .lss .int) [g l36 0,v35] fun v37 =>
 .br v37 (
 .pure [] (.idx 1) [g v 20,g l36 0] fun v38 =>
 .load [] v38 1 fun l39 =>
 .call false 91 [g l39 0,(.int .i64 1),(.pointer (some ⟨r1,0,none⟩))] [] [⟨r1,129,[g l36 1]⟩] .one fun l40 c40 =>
 .pure [] .not [g l40 0] fun v41 =>
 .br v41 (
 .ret (.bool false) []) (
 .pure [] (.bin .add .int) [g l36 0,(.int .i64 1)] fun v42 =>
 .cont 83 C83 [v42,(g (c40.getD 0 []) 0)] [E [(.pointer (some ⟨r0,0,none⟩))],E [(.pointer (some ⟨r1,0,none⟩))],E [(.func (.func 91) #[] #[(.pointer (some ⟨r1,0,none⟩))])],E [(.int .i64 1)],E [(.int .i64 1)],E [(.pointer (some ⟨r0,20,none⟩)),(.pointer (some ⟨r0,21,none⟩)),(.pointer (some ⟨r0,22,none⟩)),(.pointer (some ⟨r0,23,none⟩))],E [(.int .i64 0)],E [g v 20],E [v35],E [(.pointer (some ⟨r0,0,none⟩)),g v 0,g v 1,g v 2,g v 3,g v 4,g v 5,g v 6,g v 7,g v 8,g v 9,g v 10,g v 11,g v 12,g v 13,g v 14,g v 15,g v 16,g v 17,g v 18,g v 19,g v 20,g v 21,g v 22,g v 23,g v 24,g v 25,g v 26,g v 27,g v 28,g v 29,g v 30,g v 31,g v 32,g v 33,g v 34,g v 35,g v 36,g v 37],E [(.pointer (some ⟨r1,0,none⟩)),(.tuple #[])]])) (
 .chk (.eqN r0 r0) <|
 .pure [] .len [g v 21] fun v43 =>
 .loop 95 10 [(.int .i64 0),g l36 1] fun C95 l44 =>
 .pure [] (.bin .lss .int) [g l44 0,v43] fun v45 =>
 .br v45 (
 .pure [] (.idx 1) [g v 21,g l44 0] fun v46 =>
 .load [] v46 1 fun l47 =>
 .call false 91 [g l47 0,(.int .i64 1),(.pointer (some ⟨r1,0,none⟩))] [] [⟨r1,129,[g l44 1]⟩] .one fun l48 c48 =>
 .pure [] .not [g l48 0] fun v49 =>
 .br v49 (
 .ret (.bool false) []) (
 .pure [] (.bin .add .int) [g l44 0,(.int .i64 1)] fun v50 =>
 .cont 95 C95 [v50,(g (c48.getD 0 []) 0)] [E [(.pointer (some ⟨r0,0,none⟩))],E [(.pointer (some ⟨r1,0,none⟩))],E [(.func (.func 91) #[] #[(.pointer (some ⟨r1,0,none⟩))])],E [(.int .i64 1)],E [(.int .i64 1)],E [(.pointer (some ⟨r0,20,none⟩)),(.pointer (some ⟨r0,21,none⟩)),(.pointer (some ⟨r0,22,none⟩)),(.pointer (some ⟨r0,23,none⟩))],E [(.int .i64 1)],E [g v 21],E [v43],E [(.pointer (some ⟨r0,0,none⟩)),g v 0,g v 1,g v 2,g v 3,g v 4,g v 5,g v 6,g v 7,g v 8,g v 9,g v 10,g v 11,g v 12,g v 13,g v 14,g v 15,g v 16,g v 17,g v 18,g v 19,g v 20,g v 21,g v 22,g v 23,g v 24,g v 25,g v 26,g v 27,g v 28,g v 29,g v 30,g v 31,g v 32,g v 33,g v 34,g v 35,g v 36,g v 37],E [(.pointer (some ⟨r1,0,none⟩)),(.tuple #[])]])) (
 .chk (.eqN r0 r0) <|
 .pure [] .len [g v 22] fun v51 =>
 .loop 107 10 [(.int .i64 0),g l44 1] fun C107 l52 =>
 .pure [] (.bin .lss .int) [g l52 0,v51] fun v53 =>
 .br v53 (
 .pure [] (.idx 1) [g v 22,g l52 0] fun v54 =>
 .load [] v54 1 fun l55 =>
 .call false 91 [g l55 0,(.int .i64 1),(.pointer (some ⟨r1,0,none⟩))] [] [⟨r1,129,[g l52 1]⟩] .one fun l56 c56 =>
 .pure [] .not [g l56 0] fun v57 =>
 .br v57 (
 .ret (.bool false) []) (
 .pure [] (.bin .add .int) [g l52 0,(.int .i64 1)] fun v58 =>
 .cont 107 C107 [v58,(g (c56.getD 0 []) 0)] [E [(.pointer (some ⟨r0,0,none⟩))],E [(.pointer (some ⟨r1,0,none⟩))],E [(.func (.func 91) #[] #[(.pointer (some ⟨r1,0,none⟩))])],E [(.int .i64 1)],E [(.int .i64 1)],E [(.pointer (some ⟨r0,20,none⟩)),(.pointer (some ⟨r0,21,none⟩)),(.pointer (some ⟨r0,22,none⟩)),(.pointer (some ⟨r0,23,none⟩))],E [(.int .i64 2)],E [g v 22],E [v51],E [(.pointer (some ⟨r0,0,none⟩)),g v 0,g v 1,g v 2,g v 3,g v 4,g v 5,g v 6,g v 7,g v 8,g v 9,g v 10,g v 11,g v 12,g v 13,g v 14,g v 15,g v 16,g v 17,g v 18,g v 19,g v 20,g v 21,g v 22,g v 23,g v 24,g v 25,g v 26,g v 27,g v 28,g v 29,g v 30,g v 31,g v 32,g v 33,g v 34,g v 35,g v 36,g v 37],E [(.pointer (some ⟨r1,0,none⟩)),(.tuple #[])]])) (
 .chk (.eqN r0 r0) <|
 .pure [] .len [g v 23] fun v59 =>
 .loop 119 10 [(.int .i64 0),g l52 1] fun C119 l60 =>
 .pure [] (.bin .lss .int) [g l60 0,v59] fun v61 =>
 .br v61 (
 .pure [] (.idx 1) [g v 23,g l60 0] fun v62 =>
 .load [] v62 1 fun l63 =>
 .call false 91 [g l63 0,(.int .i64 1),(.pointer (some ⟨r1,0,none⟩))] [] [⟨r1,129,[g l60 1]⟩] .one fun l64 c64 =>
 .pure [] .not [g l64 0] fun v65 =>
 .br v65 (
 .ret (.bool false) []) (
 .pure [] (.bin .add .int) [g l60 0,(.int .i64 1)] fun v66 =>
 .cont 119 C119 [v66,(g (c64.getD 0 []) 0)] [E [(.pointer (some ⟨r0,0,none⟩))],E [(.pointer (some ⟨r1,0,none⟩))],E [(.func (.func 91) #[] #[(.pointer (some ⟨r1,0,none⟩))])],E [(.int .i64 1)],E [(.int .i64 1)],E [(.pointer (some ⟨r0,20,none⟩)),(.pointer (some ⟨r0,21,none⟩)),(.pointer (some ⟨r0,22,none⟩)),(.pointer (some ⟨r0,23,none⟩))],E [(.int .i64 3)],E [g v 23],E [v59],E [(.pointer (some ⟨r0,0,none⟩)),g v 0,g v 1,g v 2,g v 3,g v 4,g v 5,g v 6,g v 7,g v 8,g v 9,g v 10,g v 11,g v 12,g v 13,g v 14,g v 15,g v 16,g v 17,g v 18,g v 19,g v 20,g v 21,g v 22,g v 23,g v 24,g v 25,g v 26,g v 27,g v 28,g v 29,g v 30,g v 31,g v 32,g v 33,g v 34,g v 35,g v 36,g v 37],E [(.pointer (some ⟨r1,0,none⟩)),(.tuple #[])]])) (
 .prim (.makeMap 129 false) [] [] [] .one fun l67 _ =>
 .chk (.eqN r0 r0) <|
 .pure [] .len [g v 29] fun v68 =>
 .loop 133 19 [(.int .i64 0),g l60 1] fun C133 l69 =>
 .pure [] (.bin .lss .int) [g l69 0,v68] fun v70 =>
 .br v70 (
 .pure [] (.idx 5) [g v 29,g l69 0] fun v71 =>
 .load [] v71 5 fun l72 =>
 .newbox fun r2 =>
 .chk (.eqN r2 r2) <|
 .chk (.eqN r2 r2) <|
 .pure [] (.bin .lss .int) [g l72 3,(.int .i64 0)] fun v73 =>
 .br v73 (
 .chk (.eqN r2 r2) <|
 .chk (.eqN r2 r2) <|
 .call false 91 [g l72 1,g l72 0,(.pointer (some ⟨r1,0,none⟩))] [] [⟨r1,129,[g l69 1]⟩] .one fun l74 c74 =>
 .pure [] .not [g l74 0] fun v75 =>
 .br v75 (
 .ret (.bool false) []) (
 .chk (.eqN r2 r2) <|
 .chk (.eqN r2 r2) <|
 .prim (.mapUpdate 129) [g l67 0,g l72 1,g l72 2] [] [] .one fun l76 _ =>
 .pure [] (.bin .add .int) [g l69 0,(.int .i64 1)] fun v77 =>
 .cont 133 C133 [v77,(g (c74.getD 0 []) 0)] [E [(.pointer (some ⟨r0,0,none⟩))],E [(.pointer (some ⟨r1,0,none⟩))],E [(.func (.func 91) #[] #[(.pointer (some ⟨r1,0,none⟩))])],E [g l67 0],E [g v 29],E [v68],E [(.pointer (some ⟨r0,0,none⟩)),g v 0,g v 1,g v 2,g v 3,g v 4,g v 5,g v 6,g v 7,g v 8,g v 9,g v 10,g v 11,g v 12,g v 13,g v 14,g v 15,g v 16,g v 17,g v 18,g v 19,g v 20,g v 21,g v 22,g v 23,g v 24,g v 25,g v 26,g v 27,g v 28,g v 29,g v 30,g v 31,g v 32,g v 33,g v 34,g v 35,g v 36,g v 37],E [(.pointer (some ⟨r1,0,none⟩)),(.tuple #[])]])) (
 .pure [] (.bin .add .int) [g l69 0,(.int .i64 1)] fun v78 =>
 .cont 133 C133 [v78,g l69 1] [E [(.pointer (some ⟨r0,0,none⟩))],E [(.pointer (some ⟨r1,0,none⟩))],E [(.func (.func 91) #[] #[(.pointer (some ⟨r1,0,none⟩))])],E [g l67 0],E [g v 29],E [v68],E [(.pointer (some ⟨r0,0,none⟩)),g v 0,g v 1,g v 2,g v 3,g v 4,g v 5,g v 6,g v 7,g v 8,g v 9,g v 10,g v 11,g v 12,g v 13,g v 14,g v 15,g v 16,g v 17,g v 18,g v 19,g v 20,g v 21,g v 22,g v 23,g v 24,g v 25,g v 26,g v 27,g v 28,g v 29,g v 30,g v 31,g v 32,g v 33,g v 34,g v 35,g v 36,g v 37],E [(.pointer (some ⟨r1,0,none⟩)),(.tuple #[])]])) (
 .chk (.eqN r0 r0) <|
 .pure [] .len [g v 0] fun v79 =>
 .loop 139 27 [(.int .i64 0)] fun C139 l80 =>
 .pure [] (.bin .lss .int) [g l80 0,v79] fun v81 =>
 .br v81 (
 .pure [] (.idx 12) [g v 0,g l80 0] fun v82 =>
 .load [] v82 12 fun l83 =>
 .newbox fun r3 =>
 .chk (.eqN r3 r3) <|
 .chk (.eqN r1 r1) <|
 .chk (.eqN r3 r3) <|
 .prim (.lookup 129 true) [g l69 1,g l83 0] [] [] (.tup [none,none]) fun l84 _ =>
 .chk (.eqN r3 r3) <|
 .prim (.lookup 129 true) [g l67 0,g l83 0] [] [] (.tup [none,none]) fun l85 _ =>
 .chk (.eqN r3 r3) <|
 .call false 63 [(.agg #[g l83 0,g l83 1,g l83 2,g l83 3,g l83 4,g l83 5,g l83 6,g l83 7,g l83 8,g l83 9,g l83 10,g l83 11])] [] [] .one fun l86 _ =>
 .pure [] .not [g l86 0] fun v87 =>
 .chk (.eqV v87 v87) <|
 .pure [] (.bin .gtr .int) [g l80 0,(.int .i64 0)] fun v88 =>
 .chk (.eqV v87 v87) <|
 .chk (.eqN r0 r0) <|
 .chk (.eqV v88 v88) <|
 .chk (.eqV v87 v87) <|
 .chk (.eqV v88 v88) <|
 .chk (.eqV v87 v87) <|
 .pure [] (.bin .sub .int) [g l80 0,(.int .i64 1)] fun v89 =>
 .chk (.eqV v88 v88) <|
 .chk (.eqV v87 v87) <|
 .chk (.eqV v88 v88) <|
 .chk (.eqV v87 v87) <|
 .pure [(v88,true),(v87,false)] (.idx 12) [g v 0,v89] fun v90 =>
 .chk (.ptr [(v88,true),(v87,false)] v90) <|
 .chk (.eqV v88 v88) <|
 .chk (.eqV v87 v87) <|
 .chk (.eqV v88 v88) <|
 .chk (.eqV v87 v87) <|
 .load [(v88,true),(v87,false)] v90 1 fun l91 =>
 .chk (.eqN r3 r3) <|
 .chk (.eqV v88 v88) <|
 .chk (.eqV v87 v87) <|
 .chk (.eqV v88 v88) <|
 .chk (.eqV v87 v87) <|
 .chk (.eqV v88 v88) <|
 .chk (.eqV v87 v87) <|
 .pure [] (.bin .geq .int) [g l91 0,g l83 0] fun v92 =>
 .chk (.eqV v87 v87) <|
 .chk (.eqV v88 v88) <|
 .chk (.eqV v87 v87) <|
 .pure [] .pick [v88,v92,(.bool false)] fun v93 =>
 .chk (.eqV v87 v87) <|
 .pure [] .pick [v87,(.bool true),v93] fun v94 =>
 .chk (.eqV v94 v94) <|
 .pure [] .not [g l84 1] fun v95 =>
 .chk (.eqV v94 v94) <|
 .pure [] .pick [v94,(.bool true),v95] fun v96 =>
 .chk (.eqN r3 r3) <|
 .chk (.eqV v96 v96) <|
 .chk (.eqV v96 v96) <|
 .chk (.eqV v96 v96) <|
 .pure [] (.bin .neq .int) [g l84 0,g l83 2] fun v97 =>
 .chk (.eqV v96 v96) <|
 .pure [] .pick [v96,(.bool true),v97] fun v98 =>
 .chk (.eqV v98 v98) <|
 .chk (.eqN r3 r3) <|
 .chk (.eqV (g l85 1) (g l85 1)) <|
 .chk (.eqV v98 v98) <|
 .chk (.eqV (g l85 1) (g l85 1)) <|
 .chk (.eqV v98 v98) <|
 .chk (.eqV (g l85 1) (g l85 1)) <|
 .chk (.eqV v98 v98) <|
 .pure [] (.bin .neq .int) [g l85 0,g l83 1] fun v99 =>
 .chk (.eqV v98 v98) <|
 .chk (.eqV (g l85 1) (g l85 1)) <|
 .chk (.eqV v98 v98) <|
 .pure [] .pick [g l85 1,v99,(.bool false)] fun v100 =>
 .chk (.eqV v98 v98) <|
 .pure [] .pick [v98,(.bool true),v100] fun v101 =>
 .br v101 (
 .ret (.bool false) []) (
 .pure [] (.bin .add .int) [g l80 0,(.int .i64 1)] fun v102 =>
 .cont 139 C139 [v102] [E [(.pointer (some ⟨r0,0,none⟩))],E [(.pointer (some ⟨r1,0,none⟩))],E [g l67 0],E [g v 0],E [v79],E [(.pointer (some ⟨r0,0,none⟩)),g v 0,g v 1,g v 2,g v 3,g v 4,g v 5,g v 6,g v 7,g v 8,g v 9,g v 10,g v 11,g v 12,g v 13,g v 14,g v 15,g v 16,g v 17,g v 18,g v 19,g v 20,g v 21,g v 22,g v 23,g v 24,g v 25,g v 26,g v 27,g v 28,g v 29,g v 30,g v 31,g v 32,g v 33,g v 34,g v 35,g v 36,g v 37],E [(.pointer (some ⟨r1,0,none⟩)),g l69 1]])) (
 .chk (.eqN r1 r1) <|
 .prim (.bi .len #[129] 3) [g l69 1] [] [] .one fun l103 _ =>
 .chk (.eqN r0 r0) <|
 .pure [] .len [g v 0] fun v104 =>
 .pure [] (.bin .eql .int) [g l103 0,v104] fun v105 =>
 .ret v105 []))))))))))
theorem T_board_placed_eq (vs : List Value) : sxFun PP Tryz.f50 (mkOpts okL [(43, [5, 6, 7, 8])] [(4, .unroll 3), (7, .unroll 5), (10, .inv [35] [1, 3, 4, 5, 21, 27, 28, 33, 34] [(1, []), (3, [0])]), (19, .inv [51] [1, 3, 4, 10, 49, 50] [(1, []), (3, [0])]), (27, .inv [74] [1, 3, 10, 72, 73] [(1, []), (3, [])])] []) vs = T_board_placed vs := by kernel_rfl
theorem run_board_placed {args vs} (ha : entryArgs PP Tryz.f50 args = some vs) (ho : Ones vs) {H O Q} (h : (T_board_placed vs).den PP Q H O) : Triple PP F_board_placed args H O Q :=
 triple_run mixed (mkOpts_ok okL_ok _ _ _) Tryz.func50 T_board_placed_eq ha ho h
abbrev F_board_fights : FuncId := 51
/- zeitnot/board.fights -/
def T_board_fights (v : List Value) : Tree :=
 .newbox fun r0 =>
 .chk (.eqN r0 r0) <|
 .sw (g v 34) 0 (
 .chk (.eqN r0 r0) <|
 .chk (.eqN r0 r0) <|
 .pure [] (.bin .sub .int) [(.int .i64 1),g v 34] fun v0 =>
 .sw v0 0 (
 .chk (.eqN r0 r0) <|
 .prim (.makeMap 132 false) [] [] [] .one fun l1 _ =>
 .chk (.eqN r0 r0) <|
 .pure [] .len [g v 31] fun v2 =>
 .loop 23 4 [(.int .i64 0)] fun C23 l3 =>
 .pure [] (.bin .lss .int) [g l3 0,v2] fun v4 =>
 .br v4 (
 .pure [] (.idx 1) [g v 31,g l3 0] fun v5 =>
 .load [] v5 1 fun l6 =>
 .prim (.lookup 132 false) [g l1 0,g l6 0] [] [] .one fun l7 _ =>
 .br (g l7 0) (
 .ret (.bool false) []) (
 .call false 69 [g v 8,g l6 0] [] [] .one fun l8 _ =>
 .pure [] .not [g l8 0] fun v9 =>
 .br v9 (
 .ret (.bool false) []) (
 .prim (.mapUpdate 132) [g l1 0,g l6 0,(.bool true)] [] [] .one fun l10 _ =>
 .pure [] (.bin .add .int) [g l3 0,(.int .i64 1)] fun v11 =>
 .cont 23 C23 [v11] [E [(.pointer (some ⟨r0,0,none⟩))],E [g v 8],E [g v 8],E [g l1 0],E [g v 31],E [v2],E [(.pointer (some ⟨r0,0,none⟩)),g v 0,g v 1,g v 2,g v 3,g v 4,g v 5,g v 6,g v 7,g v 8,g v 9,g v 10,g v 11,g v 12,g v 13,g v 14,g v 15,g v 16,g v 17,g v 18,g v 19,g v 20,g v 21,g v 22,g v 23,g v 24,g v 25,g v 26,g v 27,g v 28,g v 29,g v 30,g v 31,g v 32,g v 33,g v 34,g v 35,g v 36,g v 37]]))) (
 .chk (.eqN r0 r0) <|
 .pure [] .len [g v 32] fun v12 =>
 .loop 29 11 [(.int .i64 0)] fun C29 l13 =>
 .pure [] (.bin .lss .int) [g l13 0,v12] fun v14 =>
 .br v14 (
 .pure [] (.idx 2) [g v 32,g l13 0] fun v15 =>
 .load [] v15 2 fun l16 =>
 .newbox fun r1 =>
 .chk (.eqN r1 r1) <|
 .chk (.eqN r1 r1) <|
 .prim (.lookup 132 false) [g l1 0,g l16 1] [] [] .one fun l17 _ =>
 .pure [] .not [g l17 0] fun v18 =>
 .br v18 (
 .ret (.bool false) []) (
 .chk (.eqN r1 r1) <|
 .pure [] .neg [g l16 0] fun v19 =>
 .prim (.lookup 132 false) [g l1 0,v19] [] [] .one fun l20 _ =>
 .br (g l20 0) (
 .ret (.bool false) []) (
 .chk (.eqN r0 r0) <|
 .chk (.eqN r1 r1) <|
 .call false 69 [g v 31,g l16 1] [] [] .one fun l21 _ =>
 .pure [] .not [g l21 0] fun v22 =>
 .br v22 (
 .ret (.bool false) []) (
 .chk (.eqN r1 r1) <|
 .call false 69 [g v 8,g l16 0] [] [] .one fun l23 _ =>
 .pure [] .not [g l23 0] fun v24 =>
 .br v24 (
 .ret (.bool false) []) (
 .chk (.eqN r1 r1) <|
 .chk (.eqN r1 r1) <|
 .pure [] .neg [g l16 0] fun v25 =>
 .prim (.mapUpdate 132) [g l1 0,g l16 1,(.bool false)] [] [] .one fun l26 _ =>
 .prim (.mapUpdate 132) [g l1 0,v25,(.bool true)] [] [] .one fun l27 _ =>
 .pure [] (.bin .add .int) [g l13 0,(.int .i64 1)] fun v28 =>
 .cont 29 C29 [v28] [E [(.pointer (some ⟨r0,0,none⟩))],E [g v 8],E [g l1 0],E [g v 32],E [v12],E [(.pointer (some ⟨r0,0,none⟩)),g v 0,g v 1,g v 2,g v 3,g v 4,g v 5,g v 6,g v 7,g v 8,g v 9,g v 10,g v 11,g v 12,g v 13,g v 14,g v 15,g v 16,g v 17,g v 18,g v 19,g v 20,g v 21,g v 22,g v 23,g v 24,g v 25,g v 26,g v 27,g v 28,g v 29,g v 30,g v 31,g v 32,g v 33,g v 34,g v 35,g v 36,g v 37]]))))) (
 .ret (.bool true) []))) (
 .sw v0 1 (
 .chk (.eqN r0 r0) <|
 .prim (.makeMap 132 false) [] [] [] .one fun l29 _ =>
 .chk (.eqN r0 r0) <|
 .pure [] .len [g v 31] fun v30 =>
 .loop 23 4 [(.int .i64 0)] fun C23 l31 =>
 .pure [] (.bin .lss .int) [g l31 0,v30] fun v32 =>
 .br v32 (
 .pure [] (.idx 1) [g v 31,g l31 0] fun v33 =>
 .load [] v33 1 fun l34 =>
 .prim (.lookup 132 false) [g l29 0,g l34 0] [] [] .one fun l35 _ =>
 .br (g l35 0) (
 .ret (.bool false) []) (
 .call false 69 [g v 8,g l34 0] [] [] .one fun l36 _ =>
 .pure [] .not [g l36 0] fun v37 =>
 .br v37 (
 .ret (.bool false) []) (
 .prim (.mapUpdate 132) [g l29 0,g l34 0,(.bool true)] [] [] .one fun l38 _ =>
 .pure [] (.bin .add .int) [g l31 0,(.int .i64 1)] fun v39 =>
 .cont 23 C23 [v39] [E [(.pointer (some ⟨r0,0,none⟩))],E [g v 8],E [g v 22],E [g l29 0],E [g v 31],E [v30],E [(.pointer (some ⟨r0,0,none⟩)),g v 0,g v 1,g v 2,g v 3,g v 4,g v 5,g v 6,g v 7,g v 8,g v 9,g v 10,g v 11,g v 12,g v 13,g v 14,g v 15,g v 16,g v 17,g v 18,g v 19,g v 20,g v 21,g v 22,g v 23,g v 24,g v 25,g v 26,g v 27,g v 28,g v 29,g v 30,g v 31,g v 32,g v 33,g v 34,g v 35,g v 36,g v 37]]))) (
 .chk (.eqN r0 r0) <|
 .pure [] .len [g v 32] fun v40 =>
 .loop 29 11 [(.int .i64 0)] fun C29 l41 =>
 .pure [] (.bin .lss .int) [g l41 0,v40] fun v42 =>
 .br v42 (
 .pure [] (.idx 2) [g v 32,g l41 0] fun v43 =>
 .load [] v43 2 fun l44 =>
 .newbox fun r2 =>
 .chk (.eqN r2 r2) <|
 .chk (.eqN r2 r2) <|
 .prim (.lookup 132 false) [g l29 0,g l44 1] [] [] .one fun l45 _ =>
 .pure [] .not [g l45 0] fun v46 =>
 .br v46 (
 .ret (.bool false) []) (
 .chk (.eqN r2 r2) <|
 .pure [] .neg [g l44 0] fun v47 =>
 .prim (.lookup 132 false) [g l29 0,v47] [] [] .one fun l48 _ =>
 .br (g l48 0) (
 .ret (.bool false) []) (
 .chk (.eqN r0 r0) <|
 .chk (.eqN r2 r2) <|
 .call false 69 [g v 31,g l44 1] [] [] .one fun l49 _ =>
 .pure [] .not [g l49 0] fun v50 =>
 .br v50 (
 .ret (.bool false) []) (
 .chk (.eqN r2 r2) <|
 .call false 69 [g v 22,g l44 0] [] [] .one fun l51 _ =>
 .pure [] .not [g l51 0] fun v52 =>
 .br v52 (
 .ret (.bool false) []) (
 .chk (.eqN r2 r2) <|
 .chk (.eqN r2 r2) <|
 .pure [] .neg [g l44 0] fun v53 =>
 .prim (.mapUpdate 132) [g l29 0,g l44 1,(.bool false)] [] [] .one fun l54 _ =>
 .prim (.mapUpdate 132) [g l29 0,v53,(.bool true)] [] [] .one fun l55 _ =>
 .pure [] (.bin .add .int) [g l41 0,(.int .i64 1)] fun v56 =>
 .cont 29 C29 [v56] [E [(.pointer (some ⟨r0,0,none⟩))],E [g v 22],E [g l29 0],E [g v 32],E [v40],E [(.pointer (some ⟨r0,0,none⟩)),g v 0,g v 1,g v 2,g v 3,g v 4,g v 5,g v 6,g v 7,g v 8,g v 9,g v 10,g v 11,g v 12,g v 13,g v 14,g v 15,g v 16,g v 17,g v 18,g v 19,g v 20,g v 21,g v 22,g v 23,g v 24,g v 25,g v 26,g v 27,g v 28,g v 29,g v 30,g v 31,g v 32,g v 33,g v 34,g v 35,g v 36,g v 37]]))))) (
 .ret (.bool true) []))) (
 .stuck 901))) (
 .sw (g v 34) 1 (
 .chk (.eqN r0 r0) <|
 .chk (.eqN r0 r0) <|
 .pure [] (.bin .sub .int) [(.int .i64 1),g v 34] fun v57 =>
 .sw v57 0 (
 .chk (.eqN r0 r0) <|
 .prim (.makeMap 132 false) [] [] [] .one fun l58 _ =>
 .chk (.eqN r0 r0) <|
 .pure [] .len [g v 31] fun v59 =>
 .loop 23 4 [(.int .i64 0)] fun C23 l60 =>
 .pure [] (.bin .lss .int) [g l60 0,v59] fun v61 =>
 .br v61 (
 .pure [] (.idx 1) [g v 31,g l60 0] fun v62 =>
 .load [] v62 1 fun l63 =>
 .prim (.lookup 132 false) [g l58 0,g l63 0] [] [] .one fun l64 _ =>
 .br (g l64 0) (
 .ret (.bool false) []) (
 .call false 69 [g v 22,g l63 0] [] [] .one fun l65 _ =>
 .pure [] .not [g l65 0] fun v66 =>
 .br v66 (
 .ret (.bool false) []) (
 .prim (.mapUpdate 132) [g l58 0,g l63 0,(.bool true)] [] [] .one fun l67 _ =>
 .pure [] (.bin .add .int) [g l60 0,(.int .i64 1)] fun v68 =>
 .cont 23 C23 [v68] [E [(.pointer (some ⟨r0,0,none⟩))],E [g v 22],E [g v 8],E [g l58 0],E [g v 31],E [v59],E [(.pointer (some ⟨r0,0,none⟩)),g v 0,g v 1,g v 2,g v 3,g v 4,g v 5,g v 6,g v 7,g v 8,g v 9,g v 10,g v 11,g v 12,g v 13,g v 14,g v 15,g v 16,g v 17,g v 18,g v 19,g v 20,g v 21,g v 22,g v 23,g v 24,g v 25,g v 26,g v 27,g v 28,g v 29,g v 30,g v 31,g v 32,g v 33,g v 34,g v 35,g v 36,g v 37]]))) (
 .chk (.eqN r0 r0) <|
 .pure [] .len [g v 32] fun v69 =>
 .loop 29 11 [(.int .i64 0)] fun C29 l70 =>
 .pure [] (.bin .lss .int) [g l70 0,v69] fun v71 =>
 .br v71 (
 .pure [] (.idx 2) [g v 32,g l70 0] fun v72 =>
 .load [] v72 2 fun l73 =>
 .newbox fun r3 =>
 .chk (.eqN r3 r3) <|
 .chk (.eqN r3 r3) <|
 .prim (.lookup 132 false) [g l58 0,g l73 1] [] [] .one fun l74 _ =>
 .pure [] .not [g l74 0] fun v75 =>
 .br v75 (
 .ret (.bool false) []) (
 .chk (.eqN r3 r3) <|
 .pure [] .neg [g l73 0] fun v76 =>
 .prim (.lookup 132 false) [g l58 0,v76] [] [] .one fun l77 _ =>
 .br (g l77 0) (
 .ret (.bool false) []) (
 .chk (.eqN r0 r0) <|
 .chk (.eqN r3 r3) <|
 .call false 69 [g v 31,g l73 1] [] [] .one fun l78 _ =>
 .pure [] .not [g l78 0] fun v79 =>
 .br v79 (
 .ret (.bool false) []) (
 .chk (.eqN r3 r3) <|
 .call false 69 [g v 8,g l73 0] [] [] .one fun l80 _ =>
 .pure [] .not [g l80 0] fun v81 =>
 .br v81 (
 .ret (.bool false) []) (
 .chk (.eqN r3 r3) <|
 .chk (.eqN r3 r3) <|
 .pure [] .neg [g l73 0] fun v82 =>
 .prim (.mapUpdate 132) [g l58 0,g l73 1,(.bool false)] [] [] .one fun l83 _ =>
 .prim (.mapUpdate 132) [g l58 0,v82,(.bool true)] [] [] .one fun l84 _ =>
 .pure [] (.bin .add .int) [g l70 0,(.int .i64 1)] fun v85 =>
 .cont 29 C29 [v85] [E [(.pointer (some ⟨r0,0,none⟩))],E [g v 8],E [g l58 0],E [g v 32],E [v69],E [(.pointer (some ⟨r0,0,none⟩)),g v 0,g v 1,g v 2,g v 3,g v 4,g v 5,g v 6,g v 7,g v 8,g v 9,g v 10,g v 11,g v 12,g v 13,g v 14,g v 15,g v 16,g v 17,g v 18,g v 19,g v 20,g v 21,g v 22,g v 23,g v 24,g v 25,g v 26,g v 27,g v 28,g v 29,g v 30,g v 31,g v 32,g v 33,g v 34,g v 35,g v 36,g v 37]]))))) (
 .ret (.bool true) []))) (
 .sw v57 1 (
 .chk (.eqN r0 r0) <|
 .prim (.makeMap 132 false) [] [] [] .one fun l86 _ =>
 .chk (.eqN r0 r0) <|
 .pure [] .len [g v 31] fun v87 =>
 .loop 23 4 [(.int .i64 0)] fun C23 l88 =>
 .pure [] (.bin .lss .int) [g l88 0,v87] fun v89 =>
 .br v89 (
 .pure [] (.idx 1) [g v 31,g l88 0] fun v90 =>
 .load [] v90 1 fun l91 =>
 .prim (.lookup 132 false) [g l86 0,g l91 0] [] [] .one fun l92 _ =>
 .br (g l92 0) (
 .ret (.bool false) []) (
 .call false 69 [g v 22,g l91 0] [] [] .one fun l93 _ =>
 .pure [] .not [g l93 0] fun v94 =>
 .br v94 (
 .ret (.bool false) []) (
 .prim (.mapUpdate 132) [g l86 0,g l91 0,(.bool true)] [] [] .one fun l95 _ =>
 .pure [] (.bin .add .int) [g l88 0,(.int .i64 1)] fun v96 =>
 .cont 23 C23 [v96] [E [(.pointer (some ⟨r0,0,none⟩))],E [g v 22],E [g v 22],E [g l86 0],E [g v 31],E [v87],E [(.pointer (some ⟨r0,0,none⟩)),g v 0,g v 1,g v 2,g v 3,g v 4,g v 5,g v 6,g v 7,g v 8,g v 9,g v 10,g v 11,g v 12,g v 13,g v 14,g v 15,g v 16,g v 17,g v 18,g v 19,g v 20,g v 21,g v 22,g v 23,g v 24,g v 25,g v 26,g v 27,g v 28,g v 29,g v 30,g v 31,g v 32,g v 33,g v 34,g v 35,g v 36,g v 37]]))) (
 .chk (.eqN r0 r0) <|
 .pure [] .len [g v 32] fun v97 =>
 .loop 29 11 [(.int .i64 0)] fun C29 l98 =>
 .pure [] (.bin .lss .int) [g l98 0,v97] fun v99 =>
 .br v99 (
 .pure [] (.idx 2) [g v 32,g l98 0] fun v100 =>
 .load [] v100 2 fun l101 =>
 .newbox fun r4 =>
 .chk (.eqN r4 r4) <|
 .chk (.eqN r4 r4) <|
 .prim (.lookup 132 false) [g l86 0,g l101 1] [] [] .one fun l102 _ =>
 .pure [] .not [g l102 0] fun v103 =>
 .br v103 (
 .ret (.bool false) []) (
 .chk (.eqN r4 r4) <|
 .pure [] .neg [g l101 0] fun v104 =>
 .prim (.lookup 132 false) [g l86 0,v104] [] [] .one fun l105 _ =>
 .br (g l105 0) (
 .ret (.bool false) []) (
 .chk (.eqN r0 r0) <|
 .chk (.eqN r4 r4) <|
 .call false 69 [g v 31,g l101 1] [] [] .one fun l106 _ =>
 .pure [] .not [g l106 0] fun v107 =>
 .br v107 (
 .ret (.bool false) []) (
 .chk (.eqN r4 r4) <|
 .call false 69 [g v 22,g l101 0] [] [] .one fun l108 _ =>
 .pure [] .not [g l108 0] fun v109 =>
 .br v109 (
 .ret (.bool false) []) (
 .chk (.eqN r4 r4) <|
 .chk (.eqN r4 r4) <|
 .pure [] .neg [g l101 0] fun v110 =>
 .prim (.mapUpdate 132) [g l86 0,g l101 1,(.bool false)] [] [] .one fun l111 _ =>
 .prim (.mapUpdate 132) [g l86 0,v110,(.bool true)] [] [] .one fun l112 _ =>
 .pure [] (.bin .add .int) [g l98 0,(.int .i64 1)] fun v113 =>
 .cont 29 C29 [v113] [E [(.pointer (some ⟨r0,0,none⟩))],E [g v 22],E [g l86 0],E [g v 32],E [v97],E [(.pointer (some ⟨r0,0,none⟩)),g v 0,g v 1,g v 2,g v 3,g v 4,g v 5,g v 6,g v 7,g v 8,g v 9,g v 10,g v 11,g v 12,g v 13,g v 14,g v 15,g v 16,g v 17,g v 18,g v 19,g v 20,g v 21,g v 22,g v 23,g v 24,g v 25,g v 26,g v 27,g v 28,g v 29,g v 30,g v 31,g v 32,g v 33,g v 34,g v 35,g v 36,g v 37]]))))) (
 .ret (.bool true) []))) (
 .stuck 901))) (
 .stuck 901))
theorem T_board_fights_eq (vs : List Value) : sxFun PP Tryz.f51 (mkOpts okL [(43, [5, 6, 7, 8])] [(4, .inv [27] [1, 3, 4, 5, 25, 26] [(1, [])]), (11, .inv [46] [1, 4, 5, 44, 45] [(1, [])])] []) vs = T_board_fights vs := by kernel_rfl
theorem run_board_fights {args vs} (ha : entryArgs PP Tryz.f51 args = some vs) (ho : Ones vs) {H O Q} (h : (T_board_fights vs).den PP Q H O) : Triple PP F_board_fights args H O Q :=
 triple_run mixed (mkOpts_ok okL_ok _ _ _) Tryz.func51 T_board_fights_eq ha ho h
abbrev F_zeitnotref15_Item : FuncId := 52
/- zeitnot/zeitnotref15.Item -/
def T_zeitnotref15_Item (v : List Value) : Tree :=
 .newbox fun r0 =>
 .chk (.eqN r0 r0) <|
 .pure [] (.bin .lss .int) [g v 0,(.int .i64 0)] fun v0 =>
 .chk (.eqN r0 r0) <|
 .chk (.eqV v0 v0) <|
 .chk (.eqV v0 v0) <|
 .pure [] (.bin .gtr .int) [g v 0,(.int .i64 1)] fun v1 =>
 .chk (.eqV v0 v0) <|
 .pure [] .pick [v0,(.bool true),v1] fun v2 =>
 .chk (.eqN r0 r0) <|
 .chk (.eqV v2 v2) <|
 .chk (.eqV v2 v2) <|
 .pure [] (.bin .lss .int) [g v 1,(.int .i64 1)] fun v3 =>
 .chk (.eqV v2 v2) <|
 .pure [] .pick [v2,(.bool true),v3] fun v4 =>
 .chk (.eqN r0 r0) <|
 .chk (.eqV v4 v4) <|
 .chk (.eqV v4 v4) <|
 .pure [] (.bin .gtr .int) [g v 1,(.int .i64 500)] fun v5 =>
 .chk (.eqV v4 v4) <|
 .pure [] .pick [v4,(.bool true),v5] fun v6 =>
 .chk (.eqN r0 r0) <|
 .chk (.eqV v6 v6) <|
 .chk (.eqV v6 v6) <|
 .pure [] (.bin .lss .int) [g v 2,(.int .i64 0)] fun v7 =>
 .chk (.eqV v6 v6) <|
 .pure [] .pick [v6,(.bool true),v7] fun v8 =>
 .chk (.eqN r0 r0) <|
 .chk (.eqV v8 v8) <|
 .chk (.eqV v8 v8) <|
 .pure [] (.bin .gtr .int) [g v 2,(.int .i64 399)] fun v9 =>
 .chk (.eqV v8 v8) <|
 .pure [] .pick [v8,(.bool true),v9] fun v10 =>
 .chk (.eqN r0 r0) <|
 .chk (.eqV v10 v10) <|
 .chk (.eqV v10 v10) <|
 .pure [] (.bin .lss .int) [g v 3,(.int .i64 (-1))] fun v11 =>
 .chk (.eqV v10 v10) <|
 .pure [] .pick [v10,(.bool true),v11] fun v12 =>
 .chk (.eqN r0 r0) <|
 .chk (.eqV v12 v12) <|
 .chk (.eqV v12 v12) <|
 .pure [] (.bin .gtr .int) [g v 3,(.int .i64 1)] fun v13 =>
 .chk (.eqV v12 v12) <|
 .pure [] .pick [v12,(.bool true),v13] fun v14 =>
 .chk (.eqN r0 r0) <|
 .chk (.eqV v14 v14) <|
 .chk (.eqV v14 v14) <|
 .pure [] .len [g v 4] fun v15 =>
 .chk (.eqV v14 v14) <|
 .pure [] (.bin .gtr .int) [v15,(.int .i64 4)] fun v16 =>
 .chk (.eqV v14 v14) <|
 .pure [] .pick [v14,(.bool true),v16] fun v17 =>
 .br v17 (
 .ret (.bool false) []) (
 .chk (.eqN r0 r0) <|
 .pure [] (.bin .geq .int) [g v 3,(.int .i64 0)] fun v18 =>
 .chk (.eqN r0 r0) <|
 .chk (.eqV v18 v18) <|
 .chk (.eqV v18 v18) <|
 .pure [] .len [g v 4] fun v19 =>
 .chk (.eqV v18 v18) <|
 .pure [] (.bin .gtr .int) [v19,(.int .i64 0)] fun v20 =>
 .chk (.eqV v18 v18) <|
 .pure [] .pick [v18,v20,(.bool false)] fun v21 =>
 .chk (.eqV v21 v21) <|
 .chk (.eqN r0 r0) <|
 .chk (.eqV (g v 5) (g v 5)) <|
 .chk (.eqV v21 v21) <|
 .chk (.eqV (g v 5) (g v 5)) <|
 .chk (.eqV v21 v21) <|
 .pure [] (.bin .lss .int) [g v 3,(.int .i64 0)] fun v22 =>
 .chk (.eqV v21 v21) <|
 .chk (.eqV (g v 5) (g v 5)) <|
 .chk (.eqV v21 v21) <|
 .pure [] .pick [g v 5,v22,(.bool false)] fun v23 =>
 .chk (.eqV v21 v21) <|
 .pure [] .pick [v21,(.bool true),v23] fun v24 =>
 .br v24 (
 .ret (.bool false) []) (
 .loop 64 6 [(.int .i64 0)] fun C64 l25 =>
 .chk (.eqN r0 r0) <|
 .pure [] .len [g v 4] fun v26 =>
 .pure [] (.bin .lss .int) [g l25 0,v26] fun v27 =>
 .br v27 (
 .chk (.eqN r0 r0) <|
 .pure [] (.idx 2) [g v 4,g l25 0] fun v28 =>
 .load [] v28 2 fun l29 =>
 .newbox fun r1 =>
 .chk (.eqN r1 r1) <|
 .chk (.eqN r1 r1) <|
 .pure [] (.bin .lss .int) [g l29 0,(.int .i64 0)] fun v30 =>
 .chk (.eqN r1 r1) <|
 .chk (.eqV v30 v30) <|
 .chk (.eqV v30 v30) <|
 .pure [] (.bin .gtr .int) [g l29 0,(.int .i64 500)] fun v31 =>
 .chk (.eqV v30 v30) <|
 .pure [] .pick [v30,(.bool true),v31] fun v32 =>
 .chk (.eqN r1 r1) <|
 .chk (.eqV v32 v32) <|
 .chk (.eqV v32 v32) <|
 .pure [] (.bin .lss .int) [g l29 1,(.int .i64 0)] fun v33 =>
 .chk (.eqV v32 v32) <|
 .pure [] .pick [v32,(.bool true),v33] fun v34 =>
 .chk (.eqN r1 r1) <|
 .chk (.eqV v34 v34) <|
 .chk (.eqV v34 v34) <|
 .pure [] (.bin .gtr .int) [g l29 1,(.int .i64 1)] fun v35 =>
 .chk (.eqV v34 v34) <|
 .pure [] .pick [v34,(.bool true),v35] fun v36 =>
 .chk (.eqN r1 r1) <|
 .chk (.eqV v36 v36) <|
 .chk (.eqV v36 v36) <|
 .pure [] (.bin .gtr .int) [g l29 0,(.int .i64 0)] fun v37 =>
 .chk (.eqV v36 v36) <|
 .chk (.eqN r1 r1) <|
 .chk (.eqV v37 v37) <|
 .chk (.eqV v36 v36) <|
 .chk (.eqV v37 v37) <|
 .chk (.eqV v36 v36) <|
 .pure [] (.bin .neq .int) [g l29 1,(.int .i64 0)] fun v38 =>
 .chk (.eqV v36 v36) <|
 .chk (.eqV v37 v37) <|
 .chk (.eqV v36 v36) <|
 .pure [] .pick [v37,v38,(.bool false)] fun v39 =>
 .chk (.eqV v36 v36) <|
 .pure [] .pick [v36,(.bool true),v39] fun v40 =>
 .br v40 (
 .ret (.bool false) []) (
 .pure [] (.bin .add .int) [g l25 0,(.int .i64 1)] fun v41 =>
 .cont 64 C64 [v41] [E [(.pointer (some ⟨r0,0,none⟩))],E [(.pointer (some ⟨r0,0,none⟩)),g v 0,g v 1,g v 2,g v 3,g v 4]])) (
 .ret (.bool true) [])))
theorem T_zeitnotref15_Item_eq (vs : List Value) : sxFun PP Tryz.f52 (mkOpts okL [(43, [5, 6, 7, 8])] [(6, .inv [5] [2] [(2, [])])] []) vs = T_zeitnotref15_Item vs := by kernel_rfl
theorem run_zeitnotref15_Item {args vs} (ha : entryArgs PP Tryz.f52 args = some vs) (ho : Ones vs) {H O Q} (h : (T_zeitnotref15_Item vs).den PP Q H O) : Triple PP F_zeitnotref15_Item args H O Q :=
 triple_run mixed (mkOpts_ok okL_ok _ _ _) Tryz.func52 T_zeitnotref15_Item_eq ha ho h
abbrev F_zeitnotref15_seat : FuncId := 53
/- zeitnot/zeitnotref15.seat -/
def T_zeitnotref15_seat (v : List Value) : Tree :=
 .newbox fun r0 =>
 .chk (.eqN r0 r0) <|
 .pure [] (.bin .lss .int) [g v 1,(.int .i64 0)] fun v0 =>
 .chk (.eqV v0 v0) <|
 .pure [] (.bin .gtr .int) [g v 1,(.int .i64 99)] fun v1 =>
 .chk (.eqV v0 v0) <|
 .pure [] .pick [v0,(.bool true),v1] fun v2 =>
 .br v2 (
 .ret (.bool false) []) (
 .pure [] (.bin .lss .int) [g v 2,(.int .i64 0)] fun v3 =>
 .chk (.eqV v3 v3) <|
 .pure [] (.bin .gtr .int) [g v 2,(.int .i64 99)] fun v4 =>
 .chk (.eqV v3 v3) <|
 .pure [] .pick [v3,(.bool true),v4] fun v5 =>
 .br v5 (
 .ret (.bool false) []) (
 .pure [] (.bin .lss .int) [g v 3,(.int .i64 0)] fun v6 =>
 .chk (.eqV v6 v6) <|
 .pure [] (.bin .gtr .int) [g v 3,(.int .i64 99)] fun v7 =>
 .chk (.eqV v6 v6) <|
 .pure [] .pick [v6,(.bool true),v7] fun v8 =>
 .br v8 (
 .ret (.bool false) []) (
 .pure [] (.bin .lss .int) [g v 4,(.int .i64 0)] fun v9 =>
 .chk (.eqV v9 v9) <|
 .pure [] (.bin .gtr .int) [g v 4,(.int .i64 99)] fun v10 =>
 .chk (.eqV v9 v9) <|
 .pure [] .pick [v9,(.bool true),v10] fun v11 =>
 .br v11 (
 .ret (.bool false) []) (
 .chk (.eqN r0 r0) <|
 .pure [] (.bin .geq .int) [g v 0,(.int .i64 0)] fun v12 =>
 .chk (.eqN r0 r0) <|
 .chk (.eqV v12 v12) <|
 .chk (.eqV v12 v12) <|
 .pure [] (.bin .leq .int) [g v 0,(.int .i64 9999)] fun v13 =>
 .chk (.eqV v12 v12) <|
 .pure [] .pick [v12,v13,(.bool false)] fun v14 =>
 .chk (.eqN r0 r0) <|
 .chk (.eqV v14 v14) <|
 .chk (.eqV v14 v14) <|
 .pure [] (.bin .geq .int) [g v 12,(.int .i64 0)] fun v15 =>
 .chk (.eqV v14 v14) <|
 .pure [] .pick [v14,v15,(.bool false)] fun v16 =>
 .chk (.eqN r0 r0) <|
 .chk (.eqV v16 v16) <|
 .chk (.eqV v16 v16) <|
 .pure [] (.bin .leq .int) [g v 12,(.int .i64 7)] fun v17 =>
 .chk (.eqV v16 v16) <|
 .pure [] .pick [v16,v17,(.bool false)] fun v18 =>
 .chk (.eqN r0 r0) <|
 .chk (.eqV v18 v18) <|
 .chk (.eqV v18 v18) <|
 .pure [] (.bin .geq .int) [g v 13,(.int .i64 0)] fun v19 =>
 .chk (.eqV v18 v18) <|
 .pure [] .pick [v18,v19,(.bool false)] fun v20 =>
 .chk (.eqN r0 r0) <|
 .chk (.eqV v20 v20) <|
 .chk (.eqV v20 v20) <|
 .pure [] (.bin .leq .int) [g v 13,(.int .i64 255)] fun v21 =>
 .chk (.eqV v20 v20) <|
 .pure [] .pick [v20,v21,(.bool false)] fun v22 =>
 .ret v22 []))))
theorem T_zeitnotref15_seat_eq (vs : List Value) : sxFun PP Tryz.f53 (mkOpts okL [(43, [5, 6, 7, 8])] [(2, .unroll 5)] []) vs = T_zeitnotref15_seat vs := by kernel_rfl
theorem run_zeitnotref15_seat {args vs} (ha : entryArgs PP Tryz.f53 args = some vs) (ho : Ones vs) {H O Q} (h : (T_zeitnotref15_seat vs).den PP Q H O) : Triple PP F_zeitnotref15_seat args H O Q :=
 triple_run mixed (mkOpts_ok okL_ok _ _ _) Tryz.func53 T_zeitnotref15_seat_eq ha ho h
abbrev F_zeitnotref15_found : FuncId := 54
/- zeitnot/zeitnotref15.found -/
def T_zeitnotref15_found (v : List Value) : Tree :=
 .newbox fun r0 =>
 .chk (.eqN r0 r0) <|
 .call false 35 [(.agg #[g v 1,g v 2,g v 3,g v 4,g v 5,g v 6,g v 7,g v 8,g v 9,g v 10,g v 11,g v 12,g v 13,g v 14])] [] [] (.agg 4) fun l0 _ =>
 .pure [] .len [g l0 0] fun v1 =>
 .pure [] (.bin .add .int) [(.int .i64 0),v1] fun v2 =>
 .pure [] .len [g l0 1] fun v3 =>
 .pure [] (.bin .add .int) [v2,v3] fun v4 =>
 .pure [] .len [g l0 2] fun v5 =>
 .pure [] (.bin .add .int) [v4,v5] fun v6 =>
 .pure [] .len [g l0 3] fun v7 =>
 .pure [] (.bin .add .int) [v6,v7] fun v8 =>
 .chk (.eqN r0 r0) <|
 .call false 35 [(.agg #[g v 15,g v 16,g v 17,g v 18,g v 19,g v 20,g v 21,g v 22,g v 23,g v 24,g v 25,g v 26,g v 27,g v 28])] [] [] (.agg 4) fun l9 _ =>
 .pure [] .len [g l9 0] fun v10 =>
 .pure [] (.bin .add .int) [v8,v10] fun v11 =>
 .pure [] .len [g l9 1] fun v12 =>
 .pure [] (.bin .add .int) [v11,v12] fun v13 =>
 .pure [] .len [g l9 2] fun v14 =>
 .pure [] (.bin .add .int) [v13,v14] fun v15 =>
 .pure [] .len [g l9 3] fun v16 =>
 .pure [] (.bin .add .int) [v15,v16] fun v17 =>
 .loop 111 11 [v17,(.int .i64 0)] fun C111 l18 =>
 .chk (.eqN r0 r0) <|
 .pure [] .len [g v 29] fun v19 =>
 .pure [] (.bin .lss .int) [g l18 1,v19] fun v20 =>
 .br v20 (
 .chk (.eqN r0 r0) <|
 .pure [] (.idx 5) [g v 29,g l18 1] fun v21 =>
 .load [] v21 5 fun l22 =>
 .newbox fun r1 =>
 .chk (.eqN r1 r1) <|
 .chk (.eqN r1 r1) <|
 .pure [] (.bin .geq .int) [g l22 3,(.int .i64 0)] fun v23 =>
 .br v23 (
 .pure [] (.bin .add .int) [g l18 1,(.int .i64 1)] fun v24 =>
 .cont 111 C111 [g l18 0,v24] [E [(.pointer (some ⟨r0,0,none⟩))],E [(.pointer (some ⟨r0,0,none⟩)),g v 0,g v 1,g v 2,g v 3,g v 4,g v 5,g v 6,g v 7,g v 8,g v 9,g v 10,g v 11,g v 12,g v 13,g v 14,g v 15,g v 16,g v 17,g v 18,g v 19,g v 20,g v 21,g v 22,g v 23,g v 24,g v 25,g v 26,g v 27,g v 28,g v 29,g v 30,g v 31,g v 32,g v 33,g v 34,g v 35,g v 36,g v 37]]) (
 .pure [] (.bin .add .int) [g l18 0,(.int .i64 1)] fun v25 =>
 .chk (.eqN r0 r0) <|
 .chk (.eqN r1 r1) <|
 .call false 21 [(.agg #[g v 0,g v 1,g v 2,g v 3,g v 4,g v 5,g v 6,g v 7,g v 8,g v 9,g v 10,g v 11,g v 12,g v 13,g v 14,g v 15,g v 16,g v 17,g v 18,g v 19,g v 20,g v 21,g v 22,g v 23,g v 24,g v 25,g v 26,g v 27,g v 28,g v 29,g v 30,g v 31,g v 32,g v 33,g v 34,g v 35,g v 36,g v 37]),g l22 1] [] [] .one fun l26 _ =>
 .pure [] (.bin .lss .int) [g l26 0,(.int .i64 0)] fun v27 =>
 .chk (.eqN r0 r0) <|
 .chk (.eqV v27 v27) <|
 .chk (.eqV v27 v27) <|
 .chk (.eqV v27 v27) <|
 .pure [(v27,false)] (.idx 12) [g v 0,g l26 0] fun v28 =>
 .chk (.ptr [(v27,false)] v28) <|
 .chk (.eqV v27 v27) <|
 .chk (.eqV v27 v27) <|
 .load [(v27,false)] (ptrAdd v28 1) 1 fun l29 =>
 .chk (.eqN r1 r1) <|
 .chk (.eqV v27 v27) <|
 .chk (.eqV v27 v27) <|
 .chk (.eqV v27 v27) <|
 .pure [] (.bin .neq .int) [g l29 0,g l22 2] fun v30 =>
 .chk (.eqV v27 v27) <|
 .pure [] .pick [v27,(.bool true),v30] fun v31 =>
 .br v31 (
 .ret (.bool false) []) (
 .pure [] (.bin .add .int) [g l18 1,(.int .i64 1)] fun v32 =>
 .cont 111 C111 [v25,v32] [E [(.pointer (some ⟨r0,0,none⟩))],E [(.pointer (some ⟨r0,0,none⟩)),g v 0,g v 1,g v 2,g v 3,g v 4,g v 5,g v 6,g v 7,g v 8,g v 9,g v 10,g v 11,g v 12,g v 13,g v 14,g v 15,g v 16,g v 17,g v 18,g v 19,g v 20,g v 21,g v 22,g v 23,g v 24,g v 25,g v 26,g v 27,g v 28,g v 29,g v 30,g v 31,g v 32,g v 33,g v 34,g v 35,g v 36,g v 37]]))) (
 .loop 118 20 [(.int .i64 0)] fun C118 l33 =>
 .chk (.eqN r0 r0) <|
 .pure [] .len [g v 0] fun v34 =>
 .pure [] (.bin .lss .int) [g l33 0,v34] fun v35 =>
 .br v35 (
 .chk (.eqN r0 r0) <|
 .pure [] (.idx 12) [g v 0,g l33 0] fun v36 =>
 .load [] v36 12 fun l37 =>
 .newbox fun r2 =>
 .chk (.eqN r2 r2) <|
 .chk (.eqN r2 r2) <|
 .call false 22 [(.agg #[g l37 0,g l37 1,g l37 2,g l37 3,g l37 4,g l37 5,g l37 6,g l37 7,g l37 8,g l37 9,g l37 10,g l37 11])] [] [] .one fun l38 _ =>
 .pure [] .not [g l38 0] fun v39 =>
 .chk (.eqV v39 v39) <|
 .pure [] (.bin .gtr .int) [g l33 0,(.int .i64 0)] fun v40 =>
 .chk (.eqV v39 v39) <|
 .chk (.eqN r0 r0) <|
 .chk (.eqV v40 v40) <|
 .chk (.eqV v39 v39) <|
 .chk (.eqV v40 v40) <|
 .chk (.eqV v39 v39) <|
 .pure [] (.bin .sub .int) [g l33 0,(.int .i64 1)] fun v41 =>
 .chk (.eqV v40 v40) <|
 .chk (.eqV v39 v39) <|
 .chk (.eqV v40 v40) <|
 .chk (.eqV v39 v39) <|
 .pure [(v40,true),(v39,false)] (.idx 12) [g v 0,v41] fun v42 =>
 .chk (.ptr [(v40,true),(v39,false)] v42) <|
 .chk (.eqV v40 v40) <|
 .chk (.eqV v39 v39) <|
 .chk (.eqV v40 v40) <|
 .chk (.eqV v39 v39) <|
 .load [(v40,true),(v39,false)] v42 1 fun l43 =>
 .chk (.eqN r2 r2) <|
 .chk (.eqV v40 v40) <|
 .chk (.eqV v39 v39) <|
 .chk (.eqV v40 v40) <|
 .chk (.eqV v39 v39) <|
 .chk (.eqV v40 v40) <|
 .chk (.eqV v39 v39) <|
 .pure [] (.bin .geq .int) [g l43 0,g l37 0] fun v44 =>
 .chk (.eqV v39 v39) <|
 .chk (.eqV v40 v40) <|
 .chk (.eqV v39 v39) <|
 .pure [] .pick [v40,v44,(.bool false)] fun v45 =>
 .chk (.eqV v39 v39) <|
 .pure [] .pick [v39,(.bool true),v45] fun v46 =>
 .br v46 (
 .ret (.bool false) []) (
 .chk (.eqN r0 r0) <|
 .chk (.eqN r2 r2) <|
 .chk (.eqN r2 r2) <|
 .call false 92 [(.agg #[g v 0,g v 1,g v 2,g v 3,g v 4,g v 5,g v 6,g v 7,g v 8,g v 9,g v 10,g v 11,g v 12,g v 13,g v 14,g v 15,g v 16,g v 17,g v 18,g v 19,g v 20,g v 21,g v 22,g v 23,g v 24,g v 25,g v 26,g v 27,g v 28,g v 29,g v 30,g v 31,g v 32,g v 33,g v 34,g v 35,g v 36,g v 37]),g l37 2,g l37 0] [] [] .one fun l47 _ =>
 .pure [] (.bin .neq .int) [g l47 0,(.int .i64 1)] fun v48 =>
 .br v48 (
 .ret (.bool false) []) (
 .pure [] (.bin .add .int) [g l33 0,(.int .i64 1)] fun v49 =>
 .cont 118 C118 [v49] [E [(.pointer (some ⟨r0,0,none⟩))],E [g l18 0],E [(.pointer (some ⟨r0,0,none⟩)),g v 0,g v 1,g v 2,g v 3,g v 4,g v 5,g v 6,g v 7,g v 8,g v 9,g v 10,g v 11,g v 12,g v 13,g v 14,g v 15,g v 16,g v 17,g v 18,g v 19,g v 20,g v 21,g v 22,g v 23,g v 24,g v 25,g v 26,g v 27,g v 28,g v 29,g v 30,g v 31,g v 32,g v 33,g v 34,g v 35,g v 36,g v 37]]))) (
 .chk (.eqN r0 r0) <|
 .pure [] .len [g v 0] fun v50 =>
 .pure [] (.bin .eql .int) [g l18 0,v50] fun v51 =>
 .ret v51 []))
theorem T_zeitnotref15_found_eq (vs : List Value) : sxFun PP Tryz.f54 (mkOpts okL [(43, [5, 6, 7, 8])] [(3, .unroll 3), (6, .unroll 5), (11, .inv [3, 7] [1] [(1, [])]), (20, .inv [10] [1, 3] [(1, [])])] []) vs = T_zeitnotref15_found vs := by kernel_rfl
theorem run_zeitnotref15_found {args vs} (ha : entryArgs PP Tryz.f54 args = some vs) (ho : Ones vs) {H O Q} (h : (T_zeitnotref15_found vs).den PP Q H O) : Triple PP F_zeitnotref15_found args H O Q :=
 triple_run mixed (mkOpts_ok okL_ok _ _ _) Tryz.func54 T_zeitnotref15_found_eq ha ho h
end Go.Proofs.YtjaegdkkiefchaaGreatDoor
