/- The trees of the functions of this seat: printed by a tool of mine; each by the kernel's reckoning equal to the evaluator's. -/
import Derived.Test.YtjaegdkkiefchaaGreatDoorBT1
namespace Go.Proofs.YtjaegdkkiefchaaGreatDoor
open Go Go.Sx
set_option maxRecDepth 100000
abbrev F_zeitnotlaw15_stain : FuncId := 15
/- zeitnot/zeitnotlaw15.stain -/
def T_zeitnotlaw15_stain (vs : List Value) : Tree :=
  .newbox fun r0 =>
  .loop 2 2 [(.int .i64 0)] fun C2 l0 =>
    .chk (.eqN r0 r0) <|
    .pure [] .len [(g vs 0)] fun v1 =>
    .pure [] (.bin .lss .int) [(g l0 0), v1] fun v2 =>
    .br v2 (
      .chk (.eqN r0 r0) <|
      .pure [] (.idx 12) [(g vs 0), (g l0 0)] fun v3 =>
      .chk (.ptr [] v3) <|
      .load [] (ptrAdd v3 5) 1 fun l4 =>
      .pure [] (.bin .add .int) [(g l4 0), (.int .i64 1)] fun v5 =>
      .pure [] (.idx 12) [(g vs 0), (g l0 0)] fun v6 =>
      .chk (.ptr [] v6) <|
      .chk (.ptr [] (ptrAdd v6 5)) <|
      .store (ptrAdd v6 5) [v5] <|
      .pure [] (.bin .add .int) [(g l0 0), (.int .i64 1)] fun v7 =>
      .cont 2 C2 [v7] [E [(.pointer (some ⟨r0, 0, none⟩))], E [(.pointer (some ⟨r0, 0, none⟩)), (g vs 0), (g vs 1), (g vs 2), (g vs 3), (g vs 4), (g vs 5), (g vs 6), (g vs 7), (g vs 8), (g vs 9), (g vs 10), (g vs 11), (g vs 12), (g vs 13), (g vs 14), (g vs 15), (g vs 16), (g vs 17), (g vs 18), (g vs 19), (g vs 20), (g vs 21), (g vs 22), (g vs 23), (g vs 24), (g vs 25), (g vs 26), (g vs 27), (g vs 28), (g vs 29), (g vs 30), (g vs 31), (g vs 32), (g vs 33), (g vs 34), (g vs 35), (g vs 36), (g vs 37)]]) (
      .chk (.eqN r0 r0) <|
      .call false 35 [(.agg #[(g vs 1), (g vs 2), (g vs 3), (g vs 4), (g vs 5), (g vs 6), (g vs 7), (g vs 8), (g vs 9), (g vs 10), (g vs 11), (g vs 12), (g vs 13), (g vs 14)])] [] [] (.agg 4) fun l8 _ =>
      .loop 21 12 [(.int .i64 0)] fun C21 l9 =>
        .pure [] .len [(g l8 0)] fun v10 =>
        .pure [] (.bin .lss .int) [(g l9 0), v10] fun v11 =>
        .br v11 (
          .pure [] (.idx 1) [(g l8 0), (g l9 0)] fun v12 =>
          .load [] v12 1 fun l13 =>
          .pure [] (.bin .add .int) [(g l13 0), (.int .i64 1)] fun v14 =>
          .pure [] (.idx 1) [(g l8 0), (g l9 0)] fun v15 =>
          .chk (.ptr [] v15) <|
          .store v15 [v14] <|
          .pure [] (.bin .add .int) [(g l9 0), (.int .i64 1)] fun v16 =>
          .cont 21 C21 [v16] [E [(.pointer (some ⟨r0, 0, none⟩))], E [(.int .i64 0)], E [(g l8 0)], E [(g l8 0), (g l8 1), (g l8 2), (g l8 3)], E [(.int .i64 0)], E [(.pointer (some ⟨r0, 0, none⟩)), (g vs 0), (g vs 1), (g vs 2), (g vs 3), (g vs 4), (g vs 5), (g vs 6), (g vs 7), (g vs 8), (g vs 9), (g vs 10), (g vs 11), (g vs 12), (g vs 13), (g vs 14), (g vs 15), (g vs 16), (g vs 17), (g vs 18), (g vs 19), (g vs 20), (g vs 21), (g vs 22), (g vs 23), (g vs 24), (g vs 25), (g vs 26), (g vs 27), (g vs 28), (g vs 29), (g vs 30), (g vs 31), (g vs 32), (g vs 33), (g vs 34), (g vs 35), (g vs 36), (g vs 37)]]) (
          .loop 32 12 [(.int .i64 0)] fun C32 l17 =>
            .pure [] .len [(g l8 1)] fun v18 =>
            .pure [] (.bin .lss .int) [(g l17 0), v18] fun v19 =>
            .br v19 (
              .pure [] (.idx 1) [(g l8 1), (g l17 0)] fun v20 =>
              .load [] v20 1 fun l21 =>
              .pure [] (.bin .add .int) [(g l21 0), (.int .i64 1)] fun v22 =>
              .pure [] (.idx 1) [(g l8 1), (g l17 0)] fun v23 =>
              .chk (.ptr [] v23) <|
              .store v23 [v22] <|
              .pure [] (.bin .add .int) [(g l17 0), (.int .i64 1)] fun v24 =>
              .cont 32 C32 [v24] [E [(.pointer (some ⟨r0, 0, none⟩))], E [(.int .i64 0)], E [(g l8 1)], E [(g l8 0), (g l8 1), (g l8 2), (g l8 3)], E [(.int .i64 1)], E [(.pointer (some ⟨r0, 0, none⟩)), (g vs 0), (g vs 1), (g vs 2), (g vs 3), (g vs 4), (g vs 5), (g vs 6), (g vs 7), (g vs 8), (g vs 9), (g vs 10), (g vs 11), (g vs 12), (g vs 13), (g vs 14), (g vs 15), (g vs 16), (g vs 17), (g vs 18), (g vs 19), (g vs 20), (g vs 21), (g vs 22), (g vs 23), (g vs 24), (g vs 25), (g vs 26), (g vs 27), (g vs 28), (g vs 29), (g vs 30), (g vs 31), (g vs 32), (g vs 33), (g vs 34), (g vs 35), (g vs 36), (g vs 37)]]) (
              .loop 43 12 [(.int .i64 0)] fun C43 l25 =>
                .pure [] .len [(g l8 2)] fun v26 =>
                .pure [] (.bin .lss .int) [(g l25 0), v26] fun v27 =>
                .br v27 (
                  .pure [] (.idx 1) [(g l8 2), (g l25 0)] fun v28 =>
                  .load [] v28 1 fun l29 =>
                  .pure [] (.bin .add .int) [(g l29 0), (.int .i64 1)] fun v30 =>
                  .pure [] (.idx 1) [(g l8 2), (g l25 0)] fun v31 =>
                  .chk (.ptr [] v31) <|
                  .store v31 [v30] <|
                  .pure [] (.bin .add .int) [(g l25 0), (.int .i64 1)] fun v32 =>
                  .cont 43 C43 [v32] [E [(.pointer (some ⟨r0, 0, none⟩))], E [(.int .i64 0)], E [(g l8 2)], E [(g l8 0), (g l8 1), (g l8 2), (g l8 3)], E [(.int .i64 2)], E [(.pointer (some ⟨r0, 0, none⟩)), (g vs 0), (g vs 1), (g vs 2), (g vs 3), (g vs 4), (g vs 5), (g vs 6), (g vs 7), (g vs 8), (g vs 9), (g vs 10), (g vs 11), (g vs 12), (g vs 13), (g vs 14), (g vs 15), (g vs 16), (g vs 17), (g vs 18), (g vs 19), (g vs 20), (g vs 21), (g vs 22), (g vs 23), (g vs 24), (g vs 25), (g vs 26), (g vs 27), (g vs 28), (g vs 29), (g vs 30), (g vs 31), (g vs 32), (g vs 33), (g vs 34), (g vs 35), (g vs 36), (g vs 37)]]) (
                  .loop 54 12 [(.int .i64 0)] fun C54 l33 =>
                    .pure [] .len [(g l8 3)] fun v34 =>
                    .pure [] (.bin .lss .int) [(g l33 0), v34] fun v35 =>
                    .br v35 (
                      .pure [] (.idx 1) [(g l8 3), (g l33 0)] fun v36 =>
                      .load [] v36 1 fun l37 =>
                      .pure [] (.bin .add .int) [(g l37 0), (.int .i64 1)] fun v38 =>
                      .pure [] (.idx 1) [(g l8 3), (g l33 0)] fun v39 =>
                      .chk (.ptr [] v39) <|
                      .store v39 [v38] <|
                      .pure [] (.bin .add .int) [(g l33 0), (.int .i64 1)] fun v40 =>
                      .cont 54 C54 [v40] [E [(.pointer (some ⟨r0, 0, none⟩))], E [(.int .i64 0)], E [(g l8 3)], E [(g l8 0), (g l8 1), (g l8 2), (g l8 3)], E [(.int .i64 3)], E [(.pointer (some ⟨r0, 0, none⟩)), (g vs 0), (g vs 1), (g vs 2), (g vs 3), (g vs 4), (g vs 5), (g vs 6), (g vs 7), (g vs 8), (g vs 9), (g vs 10), (g vs 11), (g vs 12), (g vs 13), (g vs 14), (g vs 15), (g vs 16), (g vs 17), (g vs 18), (g vs 19), (g vs 20), (g vs 21), (g vs 22), (g vs 23), (g vs 24), (g vs 25), (g vs 26), (g vs 27), (g vs 28), (g vs 29), (g vs 30), (g vs 31), (g vs 32), (g vs 33), (g vs 34), (g vs 35), (g vs 36), (g vs 37)]]) (
                      .chk (.eqN r0 r0) <|
                      .call false 35 [(.agg #[(g vs 15), (g vs 16), (g vs 17), (g vs 18), (g vs 19), (g vs 20), (g vs 21), (g vs 22), (g vs 23), (g vs 24), (g vs 25), (g vs 26), (g vs 27), (g vs 28)])] [] [] (.agg 4) fun l41 _ =>
                      .loop 77 12 [(.int .i64 0)] fun C77 l42 =>
                        .pure [] .len [(g l41 0)] fun v43 =>
                        .pure [] (.bin .lss .int) [(g l42 0), v43] fun v44 =>
                        .br v44 (
                          .pure [] (.idx 1) [(g l41 0), (g l42 0)] fun v45 =>
                          .load [] v45 1 fun l46 =>
                          .pure [] (.bin .add .int) [(g l46 0), (.int .i64 1)] fun v47 =>
                          .pure [] (.idx 1) [(g l41 0), (g l42 0)] fun v48 =>
                          .chk (.ptr [] v48) <|
                          .store v48 [v47] <|
                          .pure [] (.bin .add .int) [(g l42 0), (.int .i64 1)] fun v49 =>
                          .cont 77 C77 [v49] [E [(.pointer (some ⟨r0, 0, none⟩))], E [(.int .i64 1)], E [(g l41 0)], E [(g l41 0), (g l41 1), (g l41 2), (g l41 3)], E [(.int .i64 0)], E [(.pointer (some ⟨r0, 0, none⟩)), (g vs 0), (g vs 1), (g vs 2), (g vs 3), (g vs 4), (g vs 5), (g vs 6), (g vs 7), (g vs 8), (g vs 9), (g vs 10), (g vs 11), (g vs 12), (g vs 13), (g vs 14), (g vs 15), (g vs 16), (g vs 17), (g vs 18), (g vs 19), (g vs 20), (g vs 21), (g vs 22), (g vs 23), (g vs 24), (g vs 25), (g vs 26), (g vs 27), (g vs 28), (g vs 29), (g vs 30), (g vs 31), (g vs 32), (g vs 33), (g vs 34), (g vs 35), (g vs 36), (g vs 37)]]) (
                          .loop 88 12 [(.int .i64 0)] fun C88 l50 =>
                            .pure [] .len [(g l41 1)] fun v51 =>
                            .pure [] (.bin .lss .int) [(g l50 0), v51] fun v52 =>
                            .br v52 (
                              .pure [] (.idx 1) [(g l41 1), (g l50 0)] fun v53 =>
                              .load [] v53 1 fun l54 =>
                              .pure [] (.bin .add .int) [(g l54 0), (.int .i64 1)] fun v55 =>
                              .pure [] (.idx 1) [(g l41 1), (g l50 0)] fun v56 =>
                              .chk (.ptr [] v56) <|
                              .store v56 [v55] <|
                              .pure [] (.bin .add .int) [(g l50 0), (.int .i64 1)] fun v57 =>
                              .cont 88 C88 [v57] [E [(.pointer (some ⟨r0, 0, none⟩))], E [(.int .i64 1)], E [(g l41 1)], E [(g l41 0), (g l41 1), (g l41 2), (g l41 3)], E [(.int .i64 1)], E [(.pointer (some ⟨r0, 0, none⟩)), (g vs 0), (g vs 1), (g vs 2), (g vs 3), (g vs 4), (g vs 5), (g vs 6), (g vs 7), (g vs 8), (g vs 9), (g vs 10), (g vs 11), (g vs 12), (g vs 13), (g vs 14), (g vs 15), (g vs 16), (g vs 17), (g vs 18), (g vs 19), (g vs 20), (g vs 21), (g vs 22), (g vs 23), (g vs 24), (g vs 25), (g vs 26), (g vs 27), (g vs 28), (g vs 29), (g vs 30), (g vs 31), (g vs 32), (g vs 33), (g vs 34), (g vs 35), (g vs 36), (g vs 37)]]) (
                              .loop 99 12 [(.int .i64 0)] fun C99 l58 =>
                                .pure [] .len [(g l41 2)] fun v59 =>
                                .pure [] (.bin .lss .int) [(g l58 0), v59] fun v60 =>
                                .br v60 (
                                  .pure [] (.idx 1) [(g l41 2), (g l58 0)] fun v61 =>
                                  .load [] v61 1 fun l62 =>
                                  .pure [] (.bin .add .int) [(g l62 0), (.int .i64 1)] fun v63 =>
                                  .pure [] (.idx 1) [(g l41 2), (g l58 0)] fun v64 =>
                                  .chk (.ptr [] v64) <|
                                  .store v64 [v63] <|
                                  .pure [] (.bin .add .int) [(g l58 0), (.int .i64 1)] fun v65 =>
                                  .cont 99 C99 [v65] [E [(.pointer (some ⟨r0, 0, none⟩))], E [(.int .i64 1)], E [(g l41 2)], E [(g l41 0), (g l41 1), (g l41 2), (g l41 3)], E [(.int .i64 2)], E [(.pointer (some ⟨r0, 0, none⟩)), (g vs 0), (g vs 1), (g vs 2), (g vs 3), (g vs 4), (g vs 5), (g vs 6), (g vs 7), (g vs 8), (g vs 9), (g vs 10), (g vs 11), (g vs 12), (g vs 13), (g vs 14), (g vs 15), (g vs 16), (g vs 17), (g vs 18), (g vs 19), (g vs 20), (g vs 21), (g vs 22), (g vs 23), (g vs 24), (g vs 25), (g vs 26), (g vs 27), (g vs 28), (g vs 29), (g vs 30), (g vs 31), (g vs 32), (g vs 33), (g vs 34), (g vs 35), (g vs 36), (g vs 37)]]) (
                                  .loop 110 12 [(.int .i64 0)] fun C110 l66 =>
                                    .pure [] .len [(g l41 3)] fun v67 =>
                                    .pure [] (.bin .lss .int) [(g l66 0), v67] fun v68 =>
                                    .br v68 (
                                      .pure [] (.idx 1) [(g l41 3), (g l66 0)] fun v69 =>
                                      .load [] v69 1 fun l70 =>
                                      .pure [] (.bin .add .int) [(g l70 0), (.int .i64 1)] fun v71 =>
                                      .pure [] (.idx 1) [(g l41 3), (g l66 0)] fun v72 =>
                                      .chk (.ptr [] v72) <|
                                      .store v72 [v71] <|
                                      .pure [] (.bin .add .int) [(g l66 0), (.int .i64 1)] fun v73 =>
                                      .cont 110 C110 [v73] [E [(.pointer (some ⟨r0, 0, none⟩))], E [(.int .i64 1)], E [(g l41 3)], E [(g l41 0), (g l41 1), (g l41 2), (g l41 3)], E [(.int .i64 3)], E [(.pointer (some ⟨r0, 0, none⟩)), (g vs 0), (g vs 1), (g vs 2), (g vs 3), (g vs 4), (g vs 5), (g vs 6), (g vs 7), (g vs 8), (g vs 9), (g vs 10), (g vs 11), (g vs 12), (g vs 13), (g vs 14), (g vs 15), (g vs 16), (g vs 17), (g vs 18), (g vs 19), (g vs 20), (g vs 21), (g vs 22), (g vs 23), (g vs 24), (g vs 25), (g vs 26), (g vs 27), (g vs 28), (g vs 29), (g vs 30), (g vs 31), (g vs 32), (g vs 33), (g vs 34), (g vs 35), (g vs 36), (g vs 37)]]) (
                                      .chk (.eqN r0 r0) <|
                                      .chk (.eqN r0 r0) <|
                                      .newbox fun r1 =>
                                      .chk (.eqN r1 r1) <|
                                      .loop 135 20 [(.int .i64 0)] fun C135 l74 =>
                                        .pure [] .len [(g vs 29)] fun v75 =>
                                        .pure [] (.bin .lss .int) [(g l74 0), v75] fun v76 =>
                                        .br v76 (
                                          .pure [] (.idx 5) [(g vs 29), (g l74 0)] fun v77 =>
                                          .chk (.ptr [] v77) <|
                                          .load [] (ptrAdd v77 2) 1 fun l78 =>
                                          .pure [] (.bin .add .int) [(g l78 0), (.int .i64 1)] fun v79 =>
                                          .pure [] (.idx 5) [(g vs 29), (g l74 0)] fun v80 =>
                                          .chk (.ptr [] v80) <|
                                          .chk (.ptr [] (ptrAdd v80 2)) <|
                                          .store (ptrAdd v80 2) [v79] <|
                                          .loop 150 24 [(.int .i64 0)] fun C150 l81 =>
                                            .pure [] (.idx 5) [(g vs 29), (g l74 0)] fun v82 =>
                                            .chk (.ptr [] v82) <|
                                            .load [] (ptrAdd v82 4) 1 fun l83 =>
                                            .pure [] .len [(g l83 0)] fun v84 =>
                                            .pure [] (.bin .lss .int) [(g l81 0), v84] fun v85 =>
                                            .br v85 (
                                              .pure [] (.idx 5) [(g vs 29), (g l74 0)] fun v86 =>
                                              .chk (.ptr [] v86) <|
                                              .load [] (ptrAdd v86 4) 1 fun l87 =>
                                              .pure [] (.idx 2) [(g l87 0), (g l81 0)] fun v88 =>
                                              .chk (.ptr [] v88) <|
                                              .load [] v88 1 fun l89 =>
                                              .pure [] (.bin .add .int) [(g l89 0), (.int .i64 1)] fun v90 =>
                                              .pure [] (.idx 2) [(g l87 0), (g l81 0)] fun v91 =>
                                              .chk (.ptr [] v91) <|
                                              .chk (.ptr [] v91) <|
                                              .store v91 [v90] <|
                                              .pure [] (.bin .add .int) [(g l81 0), (.int .i64 1)] fun v92 =>
                                              .cont 150 C150 [v92] [E [(.pointer (some ⟨r0, 0, none⟩))], E [(g vs 29)], E [(g l74 0)], E [(.slice (some ⟨r1, 0, none⟩) 2 2)], E [(.int .i64 2)], E [(.int .i64 0)], E [(.pointer (some ⟨r0, 0, none⟩)), (g vs 0), (g vs 1), (g vs 2), (g vs 3), (g vs 4), (g vs 5), (g vs 6), (g vs 7), (g vs 8), (g vs 9), (g vs 10), (g vs 11), (g vs 12), (g vs 13), (g vs 14), (g vs 15), (g vs 16), (g vs 17), (g vs 18), (g vs 19), (g vs 20), (g vs 21), (g vs 22), (g vs 23), (g vs 24), (g vs 25), (g vs 26), (g vs 27), (g vs 28), (g vs 29), (g vs 30), (g vs 31), (g vs 32), (g vs 33), (g vs 34), (g vs 35), (g vs 36), (g vs 37)], E [(.pointer (some ⟨r1, 0, none⟩)), (g vs 29), (g vs 30)]]) (
                                              .pure [] (.bin .add .int) [(g l74 0), (.int .i64 1)] fun v93 =>
                                              .cont 135 C135 [v93] [E [(.pointer (some ⟨r0, 0, none⟩))], E [(g vs 29)], E [(.slice (some ⟨r1, 0, none⟩) 2 2)], E [(.int .i64 2)], E [(.int .i64 0)], E [(.pointer (some ⟨r0, 0, none⟩)), (g vs 0), (g vs 1), (g vs 2), (g vs 3), (g vs 4), (g vs 5), (g vs 6), (g vs 7), (g vs 8), (g vs 9), (g vs 10), (g vs 11), (g vs 12), (g vs 13), (g vs 14), (g vs 15), (g vs 16), (g vs 17), (g vs 18), (g vs 19), (g vs 20), (g vs 21), (g vs 22), (g vs 23), (g vs 24), (g vs 25), (g vs 26), (g vs 27), (g vs 28), (g vs 29), (g vs 30), (g vs 31), (g vs 32), (g vs 33), (g vs 34), (g vs 35), (g vs 36), (g vs 37)], E [(.pointer (some ⟨r1, 0, none⟩)), (g vs 29), (g vs 30)]])) (
                                          .chk (.eqN r1 r1) <|
                                          .loop 147 20 [(.int .i64 0)] fun C147 l94 =>
                                            .pure [] .len [(g vs 30)] fun v95 =>
                                            .pure [] (.bin .lss .int) [(g l94 0), v95] fun v96 =>
                                            .br v96 (
                                              .pure [] (.idx 5) [(g vs 30), (g l94 0)] fun v97 =>
                                              .chk (.ptr [] v97) <|
                                              .load [] (ptrAdd v97 2) 1 fun l98 =>
                                              .pure [] (.bin .add .int) [(g l98 0), (.int .i64 1)] fun v99 =>
                                              .pure [] (.idx 5) [(g vs 30), (g l94 0)] fun v100 =>
                                              .chk (.ptr [] v100) <|
                                              .chk (.ptr [] (ptrAdd v100 2)) <|
                                              .store (ptrAdd v100 2) [v99] <|
                                              .loop 162 24 [(.int .i64 0)] fun C162 l101 =>
                                                .pure [] (.idx 5) [(g vs 30), (g l94 0)] fun v102 =>
                                                .chk (.ptr [] v102) <|
                                                .load [] (ptrAdd v102 4) 1 fun l103 =>
                                                .pure [] .len [(g l103 0)] fun v104 =>
                                                .pure [] (.bin .lss .int) [(g l101 0), v104] fun v105 =>
                                                .br v105 (
                                                  .pure [] (.idx 5) [(g vs 30), (g l94 0)] fun v106 =>
                                                  .chk (.ptr [] v106) <|
                                                  .load [] (ptrAdd v106 4) 1 fun l107 =>
                                                  .pure [] (.idx 2) [(g l107 0), (g l101 0)] fun v108 =>
                                                  .chk (.ptr [] v108) <|
                                                  .load [] v108 1 fun l109 =>
                                                  .pure [] (.bin .add .int) [(g l109 0), (.int .i64 1)] fun v110 =>
                                                  .pure [] (.idx 2) [(g l107 0), (g l101 0)] fun v111 =>
                                                  .chk (.ptr [] v111) <|
                                                  .chk (.ptr [] v111) <|
                                                  .store v111 [v110] <|
                                                  .pure [] (.bin .add .int) [(g l101 0), (.int .i64 1)] fun v112 =>
                                                  .cont 162 C162 [v112] [E [(.pointer (some ⟨r0, 0, none⟩))], E [(g vs 30)], E [(g l94 0)], E [(.slice (some ⟨r1, 0, none⟩) 2 2)], E [(.int .i64 2)], E [(.int .i64 1)], E [(.pointer (some ⟨r0, 0, none⟩)), (g vs 0), (g vs 1), (g vs 2), (g vs 3), (g vs 4), (g vs 5), (g vs 6), (g vs 7), (g vs 8), (g vs 9), (g vs 10), (g vs 11), (g vs 12), (g vs 13), (g vs 14), (g vs 15), (g vs 16), (g vs 17), (g vs 18), (g vs 19), (g vs 20), (g vs 21), (g vs 22), (g vs 23), (g vs 24), (g vs 25), (g vs 26), (g vs 27), (g vs 28), (g vs 29), (g vs 30), (g vs 31), (g vs 32), (g vs 33), (g vs 34), (g vs 35), (g vs 36), (g vs 37)], E [(.pointer (some ⟨r1, 0, none⟩)), (g vs 29), (g vs 30)]]) (
                                                  .pure [] (.bin .add .int) [(g l94 0), (.int .i64 1)] fun v113 =>
                                                  .cont 147 C147 [v113] [E [(.pointer (some ⟨r0, 0, none⟩))], E [(g vs 30)], E [(.slice (some ⟨r1, 0, none⟩) 2 2)], E [(.int .i64 2)], E [(.int .i64 1)], E [(.pointer (some ⟨r0, 0, none⟩)), (g vs 0), (g vs 1), (g vs 2), (g vs 3), (g vs 4), (g vs 5), (g vs 6), (g vs 7), (g vs 8), (g vs 9), (g vs 10), (g vs 11), (g vs 12), (g vs 13), (g vs 14), (g vs 15), (g vs 16), (g vs 17), (g vs 18), (g vs 19), (g vs 20), (g vs 21), (g vs 22), (g vs 23), (g vs 24), (g vs 25), (g vs 26), (g vs 27), (g vs 28), (g vs 29), (g vs 30), (g vs 31), (g vs 32), (g vs 33), (g vs 34), (g vs 35), (g vs 36), (g vs 37)], E [(.pointer (some ⟨r1, 0, none⟩)), (g vs 29), (g vs 30)]])) (
                                              .loop 156 29 [(.int .i64 0)] fun C156 l114 =>
                                                .chk (.eqN r0 r0) <|
                                                .pure [] .len [(g vs 31)] fun v115 =>
                                                .pure [] (.bin .lss .int) [(g l114 0), v115] fun v116 =>
                                                .br v116 (
                                                  .chk (.eqN r0 r0) <|
                                                  .pure [] (.idx 1) [(g vs 31), (g l114 0)] fun v117 =>
                                                  .load [] v117 1 fun l118 =>
                                                  .pure [] (.bin .add .int) [(g l118 0), (.int .i64 1)] fun v119 =>
                                                  .pure [] (.idx 1) [(g vs 31), (g l114 0)] fun v120 =>
                                                  .chk (.ptr [] v120) <|
                                                  .store v120 [v119] <|
                                                  .pure [] (.bin .add .int) [(g l114 0), (.int .i64 1)] fun v121 =>
                                                  .cont 156 C156 [v121] [E [(.pointer (some ⟨r0, 0, none⟩))], E [(.pointer (some ⟨r0, 0, none⟩)), (g vs 0), (g vs 1), (g vs 2), (g vs 3), (g vs 4), (g vs 5), (g vs 6), (g vs 7), (g vs 8), (g vs 9), (g vs 10), (g vs 11), (g vs 12), (g vs 13), (g vs 14), (g vs 15), (g vs 16), (g vs 17), (g vs 18), (g vs 19), (g vs 20), (g vs 21), (g vs 22), (g vs 23), (g vs 24), (g vs 25), (g vs 26), (g vs 27), (g vs 28), (g vs 29), (g vs 30), (g vs 31), (g vs 32), (g vs 33), (g vs 34), (g vs 35), (g vs 36), (g vs 37)]]) (
                                                  .loop 163 33 [(.int .i64 0)] fun C163 l122 =>
                                                    .chk (.eqN r0 r0) <|
                                                    .pure [] .len [(g vs 32)] fun v123 =>
                                                    .pure [] (.bin .lss .int) [(g l122 0), v123] fun v124 =>
                                                    .br v124 (
                                                      .chk (.eqN r0 r0) <|
                                                      .pure [] (.idx 2) [(g vs 32), (g l122 0)] fun v125 =>
                                                      .chk (.ptr [] v125) <|
                                                      .load [] v125 1 fun l126 =>
                                                      .pure [] (.bin .add .int) [(g l126 0), (.int .i64 1)] fun v127 =>
                                                      .pure [] (.idx 2) [(g vs 32), (g l122 0)] fun v128 =>
                                                      .chk (.ptr [] v128) <|
                                                      .chk (.ptr [] v128) <|
                                                      .store v128 [v127] <|
                                                      .pure [] (.bin .add .int) [(g l122 0), (.int .i64 1)] fun v129 =>
                                                      .cont 163 C163 [v129] [E [(.pointer (some ⟨r0, 0, none⟩))], E [(.pointer (some ⟨r0, 0, none⟩)), (g vs 0), (g vs 1), (g vs 2), (g vs 3), (g vs 4), (g vs 5), (g vs 6), (g vs 7), (g vs 8), (g vs 9), (g vs 10), (g vs 11), (g vs 12), (g vs 13), (g vs 14), (g vs 15), (g vs 16), (g vs 17), (g vs 18), (g vs 19), (g vs 20), (g vs 21), (g vs 22), (g vs 23), (g vs 24), (g vs 25), (g vs 26), (g vs 27), (g vs 28), (g vs 29), (g vs 30), (g vs 31), (g vs 32), (g vs 33), (g vs 34), (g vs 35), (g vs 36), (g vs 37)]]) (
                                                      .ret (.tuple #[]) [])))))))))))))
theorem T_zeitnotlaw15_stain_eq (vs : List Value) : sxFun PP Tryz.f15 (mkOpts okL [(43, [5, 6, 7, 8])] [(6, .unroll 3), (9, .unroll 5), (17, .unroll 3), (2, .inv [2] [1] [(1, [])]), (12, .inv [6] [1, 3, 5, 37, 38] [(1, [])]), (20, .inv [9] [1, 8, 58, 59, 60] [(1, []), (58, [])]), (24, .inv [10] [1, 8, 9, 58, 59, 60] [(1, []), (58, [])]), (29, .inv [11] [1] [(1, [])]), (33, .inv [12] [1] [(1, [])])] []) vs = T_zeitnotlaw15_stain vs := by kernel_rfl
theorem run_zeitnotlaw15_stain {args vs : List Value} (ha : entryArgs PP Tryz.f15 args = some vs) (ho : Ones vs) {H : Heap} {O : Own} {Q : Value → Heap → Own → Prop} (h : (T_zeitnotlaw15_stain vs).den PP Q H O) : Triple PP F_zeitnotlaw15_stain args H O Q :=
  triple_run mixed (mkOpts_ok okL_ok _ _ _) Tryz.func15 T_zeitnotlaw15_stain_eq ha ho h

abbrev F_board_Find : FuncId := 16
/- zeitnot/board.Find -/
def T_board_Find (vs : List Value) : Tree :=
  .newbox fun r0 =>
  .newbox fun r1 =>
  .chk (.eqN r0 r0) <|
  .call false 62 [(.agg #[(g vs 0), (g vs 1), (g vs 2), (g vs 3), (g vs 4), (g vs 5), (g vs 6), (g vs 7), (g vs 8), (g vs 9), (g vs 10), (g vs 11), (g vs 12), (g vs 13), (g vs 14), (g vs 15), (g vs 16), (g vs 17), (g vs 18), (g vs 19), (g vs 20), (g vs 21), (g vs 22), (g vs 23), (g vs 24), (g vs 25), (g vs 26), (g vs 27), (g vs 28), (g vs 29), (g vs 30), (g vs 31), (g vs 32), (g vs 33), (g vs 34), (g vs 35), (g vs 36), (g vs 37)]), (g vs 38)] [] [] (.tup [none, none]) fun l0 _ =>
  .pure [] (.bin .neq .int) [(g l0 1), (.int .i64 0)] fun v1 =>
  .br v1 (
    .chk (.eqN r1 r1) <|
    .chk (.eqN r1 r1) <|
    .ret (.tuple #[(.agg #[(.int .i64 0), (.int .i64 0), (.int .i64 0), (.int .i64 0), (.int .i64 0), (.int .i64 0), (.int .i64 0), (.int .i64 0), (.int .i64 0), (.bool false), (.bool false), (.bool false)]), (g l0 1)]) []) (
    .chk (.eqN r0 r0) <|
    .pure [] (.idx 12) [(g vs 0), (g l0 0)] fun v2 =>
    .load [] v2 12 fun l3 =>
    .chk (.eqN r1 r1) <|
    .chk (.eqN r1 r1) <|
    .ret (.tuple #[(.agg #[(g l3 0), (g l3 1), (g l3 2), (g l3 3), (g l3 4), (g l3 5), (g l3 6), (g l3 7), (g l3 8), (g l3 9), (g l3 10), (g l3 11)]), (.int .i64 0)]) [])
theorem T_board_Find_eq (vs : List Value) : sxFun PP Tryz.f16 (mkOpts okL [(43, [5, 6, 7, 8])] [] []) vs = T_board_Find vs := by kernel_rfl
theorem run_board_Find {args vs : List Value} (ha : entryArgs PP Tryz.f16 args = some vs) (ho : Ones vs) {H : Heap} {O : Own} {Q : Value → Heap → Own → Prop} (h : (T_board_Find vs).den PP Q H O) : Triple PP F_board_Find args H O Q :=
  triple_run mixed (mkOpts_ok okL_ok _ _ _) Tryz.func16 T_board_Find_eq ha ho h

abbrev F_board_Set : FuncId := 17
/- zeitnot/board.Set -/
def T_board_Set (vs : List Value) : Tree :=
  .newbox fun r0 =>
  .newbox fun r1 =>
  .newbox fun r2 =>
  .chk (.eqN r1 r1) <|
  .call false 63 [(.agg #[(g vs 38), (g vs 39), (g vs 40), (g vs 41), (g vs 42), (g vs 43), (g vs 44), (g vs 45), (g vs 46), (g vs 47), (g vs 48), (g vs 49)])] [] [] .one fun l0 _ =>
  .pure [] .not [(g l0 0)] fun v1 =>
  .br v1 (
    .chk (.eqN r2 r2) <|
    .chk (.eqN r2 r2) <|
    .ret (.tuple #[(.agg #[(.slice none 0 0), (.int .i64 0), (.int .i64 0), (.int .i64 0), (.int .i64 0), (.int .i64 0), (.slice none 0 0), (.slice none 0 0), (.slice none 0 0), (.slice none 0 0), (.bool false), (.bool false), (.bool false), (.int .i64 0), (.int .i64 0), (.int .i64 0), (.int .i64 0), (.int .i64 0), (.int .i64 0), (.int .i64 0), (.slice none 0 0), (.slice none 0 0), (.slice none 0 0), (.slice none 0 0), (.bool false), (.bool false), (.bool false), (.int .i64 0), (.int .i64 0), (.slice none 0 0), (.slice none 0 0), (.slice none 0 0), (.slice none 0 0), (.int .i64 0), (.int .i64 0), (.int .i64 0), (.int .i64 0), (.int .i64 0)]), (.int .i64 2)]) []) (
    .chk (.eqN r0 r0) <|
    .chk (.eqN r1 r1) <|
    .call false 62 [(.agg #[(g vs 0), (g vs 1), (g vs 2), (g vs 3), (g vs 4), (g vs 5), (g vs 6), (g vs 7), (g vs 8), (g vs 9), (g vs 10), (g vs 11), (g vs 12), (g vs 13), (g vs 14), (g vs 15), (g vs 16), (g vs 17), (g vs 18), (g vs 19), (g vs 20), (g vs 21), (g vs 22), (g vs 23), (g vs 24), (g vs 25), (g vs 26), (g vs 27), (g vs 28), (g vs 29), (g vs 30), (g vs 31), (g vs 32), (g vs 33), (g vs 34), (g vs 35), (g vs 36), (g vs 37)]), (g vs 38)] [] [] (.tup [none, none]) fun l2 _ =>
    .pure [] (.bin .neq .int) [(g l2 1), (.int .i64 0)] fun v3 =>
    .br v3 (
      .chk (.eqN r2 r2) <|
      .chk (.eqN r2 r2) <|
      .ret (.tuple #[(.agg #[(.slice none 0 0), (.int .i64 0), (.int .i64 0), (.int .i64 0), (.int .i64 0), (.int .i64 0), (.slice none 0 0), (.slice none 0 0), (.slice none 0 0), (.slice none 0 0), (.bool false), (.bool false), (.bool false), (.int .i64 0), (.int .i64 0), (.int .i64 0), (.int .i64 0), (.int .i64 0), (.int .i64 0), (.int .i64 0), (.slice none 0 0), (.slice none 0 0), (.slice none 0 0), (.slice none 0 0), (.bool false), (.bool false), (.bool false), (.int .i64 0), (.int .i64 0), (.slice none 0 0), (.slice none 0 0), (.slice none 0 0), (.slice none 0 0), (.int .i64 0), (.int .i64 0), (.int .i64 0), (.int .i64 0), (.int .i64 0)]), (g l2 1)]) []) (
      .chk (.eqN r0 r0) <|
      .pure [] (.idx 12) [(g vs 0), (g l2 0)] fun v4 =>
      .load [] v4 12 fun l5 =>
      .newbox fun r3 =>
      .chk (.eqN r3 r3) <|
      .chk (.eqN r3 r3) <|
      .chk (.eqN r1 r1) <|
      .pure [] (.bin .neq .int) [(g l5 1), (g vs 39)] fun v6 =>
      .chk (.eqN r3 r3) <|
      .chk (.eqV v6 v6) <|
      .chk (.eqN r1 r1) <|
      .chk (.eqV v6 v6) <|
      .chk (.eqV v6 v6) <|
      .chk (.eqV v6 v6) <|
      .pure [] (.bin .neq .int) [(g l5 2), (g vs 40)] fun v7 =>
      .chk (.eqV v6 v6) <|
      .pure [] .pick [v6, (.bool true), v7] fun v8 =>
      .br v8 (
        .chk (.eqN r2 r2) <|
        .chk (.eqN r2 r2) <|
        .ret (.tuple #[(.agg #[(.slice none 0 0), (.int .i64 0), (.int .i64 0), (.int .i64 0), (.int .i64 0), (.int .i64 0), (.slice none 0 0), (.slice none 0 0), (.slice none 0 0), (.slice none 0 0), (.bool false), (.bool false), (.bool false), (.int .i64 0), (.int .i64 0), (.int .i64 0), (.int .i64 0), (.int .i64 0), (.int .i64 0), (.int .i64 0), (.slice none 0 0), (.slice none 0 0), (.slice none 0 0), (.slice none 0 0), (.bool false), (.bool false), (.bool false), (.int .i64 0), (.int .i64 0), (.slice none 0 0), (.slice none 0 0), (.slice none 0 0), (.slice none 0 0), (.int .i64 0), (.int .i64 0), (.int .i64 0), (.int .i64 0), (.int .i64 0)]), (.int .i64 8)]) []) (
        .chk (.eqN r0 r0) <|
        .call false 10 [(.agg #[(g vs 0), (g vs 1), (g vs 2), (g vs 3), (g vs 4), (g vs 5), (g vs 6), (g vs 7), (g vs 8), (g vs 9), (g vs 10), (g vs 11), (g vs 12), (g vs 13), (g vs 14), (g vs 15), (g vs 16), (g vs 17), (g vs 18), (g vs 19), (g vs 20), (g vs 21), (g vs 22), (g vs 23), (g vs 24), (g vs 25), (g vs 26), (g vs 27), (g vs 28), (g vs 29), (g vs 30), (g vs 31), (g vs 32), (g vs 33), (g vs 34), (g vs 35), (g vs 36), (g vs 37)])] [] [] (.agg 38) fun l9 _ =>
        .chk (.eqN r0 r0) <|
        .chk (.eqN r0 r0) <|
        .chk (.eqN r1 r1) <|
        .pure [] (.idx 12) [(g l9 0), (g l2 0)] fun v10 =>
        .chk (.ptr [] v10) <|
        .store v10 [(g vs 38), (g vs 39), (g vs 40), (g vs 41), (g vs 42), (g vs 43), (g vs 44), (g vs 45), (g vs 46), (g vs 47), (g vs 48), (g vs 49)] <|
        .chk (.eqN r0 r0) <|
        .chk (.eqN r2 r2) <|
        .chk (.eqN r2 r2) <|
        .ret (.tuple #[(.agg #[(g l9 0), (g l9 1), (g l9 2), (g l9 3), (g l9 4), (g l9 5), (g l9 6), (g l9 7), (g l9 8), (g l9 9), (g l9 10), (g l9 11), (g l9 12), (g l9 13), (g l9 14), (g l9 15), (g l9 16), (g l9 17), (g l9 18), (g l9 19), (g l9 20), (g l9 21), (g l9 22), (g l9 23), (g l9 24), (g l9 25), (g l9 26), (g l9 27), (g l9 28), (g l9 29), (g l9 30), (g l9 31), (g l9 32), (g l9 33), (g l9 34), (g l9 35), (g l9 36), (g l9 37)]), (.int .i64 0)]) [])))
theorem T_board_Set_eq (vs : List Value) : sxFun PP Tryz.f17 (mkOpts okL [(43, [5, 6, 7, 8])] [] []) vs = T_board_Set vs := by kernel_rfl
theorem run_board_Set {args vs : List Value} (ha : entryArgs PP Tryz.f17 args = some vs) (ho : Ones vs) {H : Heap} {O : Own} {Q : Value → Heap → Own → Prop} (h : (T_board_Set vs).den PP Q H O) : Triple PP F_board_Set args H O Q :=
  triple_run mixed (mkOpts_ok okL_ok _ _ _) Tryz.func17 T_board_Set_eq ha ho h

abbrev F_zeitnotlaw15_where : FuncId := 18
/- zeitnot/zeitnotlaw15.where -/
def T_zeitnotlaw15_where (vs : List Value) : Tree :=
  .newbox fun r0 =>
  .newbox fun r1 =>
  .chk (.eqN r0 r0) <|
  .call false 64 [(.agg #[(g vs 0), (g vs 1), (g vs 2), (g vs 3), (g vs 4), (g vs 5), (g vs 6), (g vs 7), (g vs 8), (g vs 9), (g vs 10), (g vs 11), (g vs 12), (g vs 13), (g vs 14), (g vs 15), (g vs 16), (g vs 17), (g vs 18), (g vs 19), (g vs 20), (g vs 21), (g vs 22), (g vs 23), (g vs 24), (g vs 25), (g vs 26), (g vs 27), (g vs 28), (g vs 29), (g vs 30), (g vs 31), (g vs 32), (g vs 33), (g vs 34), (g vs 35), (g vs 36), (g vs 37)]), (g vs 38)] [] [] (.tup [some 3, none]) fun l0 _ =>
  .newbox fun r2 =>
  .chk (.eqN r2 r2) <|
  .chk (.eqN r2 r2) <|
  .chk (.eqN r1 r1) <|
  .raw [] (.eqv .eql 49 false) [(.agg #[(g l0 0), (g l0 1), (g l0 2)]), (.agg #[(g vs 39), (g vs 40), (g vs 41)])] fun v1 =>
  .chk (.eqV v1 v1) <|
  .chk (.eqV v1 v1) <|
  .pure [] (.bin .eql .int) [(g l0 3), (g vs 42)] fun v2 =>
  .chk (.eqV v1 v1) <|
  .pure [] .pick [v1, v2, (.bool false)] fun v3 =>
  .ret v3 []
theorem T_zeitnotlaw15_where_eq (vs : List Value) : sxFun PP Tryz.f18 (mkOpts okL [(43, [5, 6, 7, 8])] [] []) vs = T_zeitnotlaw15_where vs := by kernel_rfl
theorem run_zeitnotlaw15_where {args vs : List Value} (ha : entryArgs PP Tryz.f18 args = some vs) (ho : Ones vs) {H : Heap} {O : Own} {Q : Value → Heap → Own → Prop} (h : (T_zeitnotlaw15_where vs).den PP Q H O) : Triple PP F_zeitnotlaw15_where args H O Q :=
  triple_run mixed (mkOpts_ok okL_ok _ _ _) Tryz.func18 T_zeitnotlaw15_where_eq ha ho h

abbrev F_zeitnotlaw15_gives : FuncId := 19
/- zeitnot/zeitnotlaw15.gives -/
def T_zeitnotlaw15_gives (vs : List Value) : Tree :=
  .newbox fun r0 =>
  .newbox fun r1 =>
  .newbox fun r2 =>
  .newbox fun r3 =>
  .chk (.eqN r0 r0) <|
  .chk (.eqN r1 r1) <|
  .call false 14 [(.agg #[(g vs 0), (g vs 1), (g vs 2), (g vs 3), (g vs 4), (g vs 5), (g vs 6), (g vs 7), (g vs 8), (g vs 9), (g vs 10), (g vs 11), (g vs 12), (g vs 13), (g vs 14), (g vs 15), (g vs 16), (g vs 17), (g vs 18), (g vs 19), (g vs 20), (g vs 21), (g vs 22), (g vs 23), (g vs 24), (g vs 25), (g vs 26), (g vs 27), (g vs 28), (g vs 29), (g vs 30), (g vs 31), (g vs 32), (g vs 33), (g vs 34), (g vs 35), (g vs 36), (g vs 37)]), (.agg #[(g vs 39), (g vs 40), (g vs 41), (g vs 42), (g vs 43), (g vs 44), (g vs 45), (g vs 46), (g vs 47), (g vs 48), (g vs 49), (g vs 50), (g vs 51), (g vs 52), (g vs 53), (g vs 54), (g vs 55), (g vs 56), (g vs 57), (g vs 58), (g vs 59), (g vs 60), (g vs 61), (g vs 62), (g vs 63), (g vs 64), (g vs 65), (g vs 66), (g vs 67), (g vs 68), (g vs 69), (g vs 70), (g vs 71), (g vs 72), (g vs 73), (g vs 74), (g vs 75), (g vs 76)])] [] [] .one fun l0 _ =>
  .chk (.eqV (g l0 0) (g l0 0)) <|
  .chk (.eqV (g l0 0) (g l0 0)) <|
  .pure [] (.bin .eql .int) [(g vs 38), (g vs 77)] fun v1 =>
  .chk (.eqV (g l0 0) (g l0 0)) <|
  .pure [] .pick [(g l0 0), v1, (.bool false)] fun v2 =>
  .br v2 (
    .chk (.eqN r2 r2) <|
    .chk (.eqN r3 r3) <|
    .call false 14 [(.agg #[(g vs 78), (g vs 79), (g vs 80), (g vs 81), (g vs 82), (g vs 83), (g vs 84), (g vs 85), (g vs 86), (g vs 87), (g vs 88), (g vs 89), (g vs 90), (g vs 91), (g vs 92), (g vs 93), (g vs 94), (g vs 95), (g vs 96), (g vs 97), (g vs 98), (g vs 99), (g vs 100), (g vs 101), (g vs 102), (g vs 103), (g vs 104), (g vs 105), (g vs 106), (g vs 107), (g vs 108), (g vs 109), (g vs 110), (g vs 111), (g vs 112), (g vs 113), (g vs 114), (g vs 115)]), (.agg #[(g vs 116), (g vs 117), (g vs 118), (g vs 119), (g vs 120), (g vs 121), (g vs 122), (g vs 123), (g vs 124), (g vs 125), (g vs 126), (g vs 127), (g vs 128), (g vs 129), (g vs 130), (g vs 131), (g vs 132), (g vs 133), (g vs 134), (g vs 135), (g vs 136), (g vs 137), (g vs 138), (g vs 139), (g vs 140), (g vs 141), (g vs 142), (g vs 143), (g vs 144), (g vs 145), (g vs 146), (g vs 147), (g vs 148), (g vs 149), (g vs 150), (g vs 151), (g vs 152), (g vs 153)])] [] [] .one fun l3 _ =>
    .chk (.eqN r0 r0) <|
    .call false 15 [(.agg #[(g vs 0), (g vs 1), (g vs 2), (g vs 3), (g vs 4), (g vs 5), (g vs 6), (g vs 7), (g vs 8), (g vs 9), (g vs 10), (g vs 11), (g vs 12), (g vs 13), (g vs 14), (g vs 15), (g vs 16), (g vs 17), (g vs 18), (g vs 19), (g vs 20), (g vs 21), (g vs 22), (g vs 23), (g vs 24), (g vs 25), (g vs 26), (g vs 27), (g vs 28), (g vs 29), (g vs 30), (g vs 31), (g vs 32), (g vs 33), (g vs 34), (g vs 35), (g vs 36), (g vs 37)])] [] [] (.tup []) fun l4 _ =>
    .br (g l3 0) (
      .chk (.eqN r2 r2) <|
      .chk (.eqN r3 r3) <|
      .call false 14 [(.agg #[(g vs 78), (g vs 79), (g vs 80), (g vs 81), (g vs 82), (g vs 83), (g vs 84), (g vs 85), (g vs 86), (g vs 87), (g vs 88), (g vs 89), (g vs 90), (g vs 91), (g vs 92), (g vs 93), (g vs 94), (g vs 95), (g vs 96), (g vs 97), (g vs 98), (g vs 99), (g vs 100), (g vs 101), (g vs 102), (g vs 103), (g vs 104), (g vs 105), (g vs 106), (g vs 107), (g vs 108), (g vs 109), (g vs 110), (g vs 111), (g vs 112), (g vs 113), (g vs 114), (g vs 115)]), (.agg #[(g vs 116), (g vs 117), (g vs 118), (g vs 119), (g vs 120), (g vs 121), (g vs 122), (g vs 123), (g vs 124), (g vs 125), (g vs 126), (g vs 127), (g vs 128), (g vs 129), (g vs 130), (g vs 131), (g vs 132), (g vs 133), (g vs 134), (g vs 135), (g vs 136), (g vs 137), (g vs 138), (g vs 139), (g vs 140), (g vs 141), (g vs 142), (g vs 143), (g vs 144), (g vs 145), (g vs 146), (g vs 147), (g vs 148), (g vs 149), (g vs 150), (g vs 151), (g vs 152), (g vs 153)])] [] [] .one fun l5 _ =>
      .ret (g l5 0) []) (
      .ret (.bool false) [])) (
    .chk (.eqN r0 r0) <|
    .call false 15 [(.agg #[(g vs 0), (g vs 1), (g vs 2), (g vs 3), (g vs 4), (g vs 5), (g vs 6), (g vs 7), (g vs 8), (g vs 9), (g vs 10), (g vs 11), (g vs 12), (g vs 13), (g vs 14), (g vs 15), (g vs 16), (g vs 17), (g vs 18), (g vs 19), (g vs 20), (g vs 21), (g vs 22), (g vs 23), (g vs 24), (g vs 25), (g vs 26), (g vs 27), (g vs 28), (g vs 29), (g vs 30), (g vs 31), (g vs 32), (g vs 33), (g vs 34), (g vs 35), (g vs 36), (g vs 37)])] [] [] (.tup []) fun l6 _ =>
    .ret (.bool false) [])
theorem T_zeitnotlaw15_gives_eq (vs : List Value) : sxFun PP Tryz.f19 (mkOpts okL [(43, [5, 6, 7, 8])] [] []) vs = T_zeitnotlaw15_gives vs := by kernel_rfl
theorem run_zeitnotlaw15_gives {args vs : List Value} (ha : entryArgs PP Tryz.f19 args = some vs) (ho : Ones vs) {H : Heap} {O : Own} {Q : Value → Heap → Own → Prop} (h : (T_zeitnotlaw15_gives vs).den PP Q H O) : Triple PP F_zeitnotlaw15_gives args H O Q :=
  triple_run mixed (mkOpts_ok okL_ok _ _ _) Tryz.func19 T_zeitnotlaw15_gives_eq ha ho h

abbrev F_zeitnotref15_Where : FuncId := 20
/- zeitnot/zeitnotref15.Where -/
def T_zeitnotref15_Where (vs : List Value) : Tree :=
  .newbox fun r0 =>
  .newbox fun r1 =>
  .chk (.eqN r0 r0) <|
  .call false 35 [(.agg #[(g vs 1), (g vs 2), (g vs 3), (g vs 4), (g vs 5), (g vs 6), (g vs 7), (g vs 8), (g vs 9), (g vs 10), (g vs 11), (g vs 12), (g vs 13), (g vs 14)])] [] [] (.agg 4) fun l0 _ =>
  .loop 18 8 [(.int .i64 0)] fun C18 l1 =>
    .pure [] .len [(g l0 0)] fun v2 =>
    .pure [] (.bin .lss .int) [(g l1 0), v2] fun v3 =>
    .br v3 (
      .pure [] (.idx 1) [(g l0 0), (g l1 0)] fun v4 =>
      .load [] v4 1 fun l5 =>
      .pure [] (.bin .eql .int) [(g l5 0), (g vs 38)] fun v6 =>
      .br v6 (
        .chk (.eqN r1 r1) <|
        .chk (.eqN r1 r1) <|
        .ret (.tuple #[(.agg #[(.int .i64 0), (.int .i64 0), (g l1 0)]), (.int .i64 0)]) []) (
        .pure [] (.bin .add .int) [(g l1 0), (.int .i64 1)] fun v7 =>
        .cont 18 C18 [v7] [E [(g vs 38)], E [(.pointer (some ⟨r0, 0, none⟩))], E [(.pointer (some ⟨r1, 0, none⟩))], E [(.int .i64 0)], E [(.int .i64 0)], E [(g l0 0)], E [(g l0 0), (g l0 1), (g l0 2), (g l0 3)], E [(.int .i64 0)], E [(.pointer (some ⟨r0, 0, none⟩)), (g vs 0), (g vs 1), (g vs 2), (g vs 3), (g vs 4), (g vs 5), (g vs 6), (g vs 7), (g vs 8), (g vs 9), (g vs 10), (g vs 11), (g vs 12), (g vs 13), (g vs 14), (g vs 15), (g vs 16), (g vs 17), (g vs 18), (g vs 19), (g vs 20), (g vs 21), (g vs 22), (g vs 23), (g vs 24), (g vs 25), (g vs 26), (g vs 27), (g vs 28), (g vs 29), (g vs 30), (g vs 31), (g vs 32), (g vs 33), (g vs 34), (g vs 35), (g vs 36), (g vs 37)], E [(.pointer (some ⟨r1, 0, none⟩)), (.int .i64 0), (.int .i64 0), (.int .i64 0)]])) (
      .loop 31 8 [(.int .i64 0)] fun C31 l8 =>
        .pure [] .len [(g l0 1)] fun v9 =>
        .pure [] (.bin .lss .int) [(g l8 0), v9] fun v10 =>
        .br v10 (
          .pure [] (.idx 1) [(g l0 1), (g l8 0)] fun v11 =>
          .load [] v11 1 fun l12 =>
          .pure [] (.bin .eql .int) [(g l12 0), (g vs 38)] fun v13 =>
          .br v13 (
            .chk (.eqN r1 r1) <|
            .chk (.eqN r1 r1) <|
            .ret (.tuple #[(.agg #[(.int .i64 0), (.int .i64 1), (g l8 0)]), (.int .i64 0)]) []) (
            .pure [] (.bin .add .int) [(g l8 0), (.int .i64 1)] fun v14 =>
            .cont 31 C31 [v14] [E [(g vs 38)], E [(.pointer (some ⟨r0, 0, none⟩))], E [(.pointer (some ⟨r1, 0, none⟩))], E [(.int .i64 0)], E [(.int .i64 1)], E [(g l0 1)], E [(g l0 0), (g l0 1), (g l0 2), (g l0 3)], E [(.int .i64 1)], E [(.pointer (some ⟨r0, 0, none⟩)), (g vs 0), (g vs 1), (g vs 2), (g vs 3), (g vs 4), (g vs 5), (g vs 6), (g vs 7), (g vs 8), (g vs 9), (g vs 10), (g vs 11), (g vs 12), (g vs 13), (g vs 14), (g vs 15), (g vs 16), (g vs 17), (g vs 18), (g vs 19), (g vs 20), (g vs 21), (g vs 22), (g vs 23), (g vs 24), (g vs 25), (g vs 26), (g vs 27), (g vs 28), (g vs 29), (g vs 30), (g vs 31), (g vs 32), (g vs 33), (g vs 34), (g vs 35), (g vs 36), (g vs 37)], E [(.pointer (some ⟨r1, 0, none⟩)), (.int .i64 0), (.int .i64 0), (.int .i64 0)]])) (
          .loop 44 8 [(.int .i64 0)] fun C44 l15 =>
            .pure [] .len [(g l0 2)] fun v16 =>
            .pure [] (.bin .lss .int) [(g l15 0), v16] fun v17 =>
            .br v17 (
              .pure [] (.idx 1) [(g l0 2), (g l15 0)] fun v18 =>
              .load [] v18 1 fun l19 =>
              .pure [] (.bin .eql .int) [(g l19 0), (g vs 38)] fun v20 =>
              .br v20 (
                .chk (.eqN r1 r1) <|
                .chk (.eqN r1 r1) <|
                .ret (.tuple #[(.agg #[(.int .i64 0), (.int .i64 2), (g l15 0)]), (.int .i64 0)]) []) (
                .pure [] (.bin .add .int) [(g l15 0), (.int .i64 1)] fun v21 =>
                .cont 44 C44 [v21] [E [(g vs 38)], E [(.pointer (some ⟨r0, 0, none⟩))], E [(.pointer (some ⟨r1, 0, none⟩))], E [(.int .i64 0)], E [(.int .i64 2)], E [(g l0 2)], E [(g l0 0), (g l0 1), (g l0 2), (g l0 3)], E [(.int .i64 2)], E [(.pointer (some ⟨r0, 0, none⟩)), (g vs 0), (g vs 1), (g vs 2), (g vs 3), (g vs 4), (g vs 5), (g vs 6), (g vs 7), (g vs 8), (g vs 9), (g vs 10), (g vs 11), (g vs 12), (g vs 13), (g vs 14), (g vs 15), (g vs 16), (g vs 17), (g vs 18), (g vs 19), (g vs 20), (g vs 21), (g vs 22), (g vs 23), (g vs 24), (g vs 25), (g vs 26), (g vs 27), (g vs 28), (g vs 29), (g vs 30), (g vs 31), (g vs 32), (g vs 33), (g vs 34), (g vs 35), (g vs 36), (g vs 37)], E [(.pointer (some ⟨r1, 0, none⟩)), (.int .i64 0), (.int .i64 0), (.int .i64 0)]])) (
              .loop 57 8 [(.int .i64 0)] fun C57 l22 =>
                .pure [] .len [(g l0 3)] fun v23 =>
                .pure [] (.bin .lss .int) [(g l22 0), v23] fun v24 =>
                .br v24 (
                  .pure [] (.idx 1) [(g l0 3), (g l22 0)] fun v25 =>
                  .load [] v25 1 fun l26 =>
                  .pure [] (.bin .eql .int) [(g l26 0), (g vs 38)] fun v27 =>
                  .br v27 (
                    .chk (.eqN r1 r1) <|
                    .chk (.eqN r1 r1) <|
                    .ret (.tuple #[(.agg #[(.int .i64 0), (.int .i64 3), (g l22 0)]), (.int .i64 0)]) []) (
                    .pure [] (.bin .add .int) [(g l22 0), (.int .i64 1)] fun v28 =>
                    .cont 57 C57 [v28] [E [(g vs 38)], E [(.pointer (some ⟨r0, 0, none⟩))], E [(.pointer (some ⟨r1, 0, none⟩))], E [(.int .i64 0)], E [(.int .i64 3)], E [(g l0 3)], E [(g l0 0), (g l0 1), (g l0 2), (g l0 3)], E [(.int .i64 3)], E [(.pointer (some ⟨r0, 0, none⟩)), (g vs 0), (g vs 1), (g vs 2), (g vs 3), (g vs 4), (g vs 5), (g vs 6), (g vs 7), (g vs 8), (g vs 9), (g vs 10), (g vs 11), (g vs 12), (g vs 13), (g vs 14), (g vs 15), (g vs 16), (g vs 17), (g vs 18), (g vs 19), (g vs 20), (g vs 21), (g vs 22), (g vs 23), (g vs 24), (g vs 25), (g vs 26), (g vs 27), (g vs 28), (g vs 29), (g vs 30), (g vs 31), (g vs 32), (g vs 33), (g vs 34), (g vs 35), (g vs 36), (g vs 37)], E [(.pointer (some ⟨r1, 0, none⟩)), (.int .i64 0), (.int .i64 0), (.int .i64 0)]])) (
                  .chk (.eqN r0 r0) <|
                  .call false 35 [(.agg #[(g vs 15), (g vs 16), (g vs 17), (g vs 18), (g vs 19), (g vs 20), (g vs 21), (g vs 22), (g vs 23), (g vs 24), (g vs 25), (g vs 26), (g vs 27), (g vs 28)])] [] [] (.agg 4) fun l29 _ =>
                  .loop 82 8 [(.int .i64 0)] fun C82 l30 =>
                    .pure [] .len [(g l29 0)] fun v31 =>
                    .pure [] (.bin .lss .int) [(g l30 0), v31] fun v32 =>
                    .br v32 (
                      .pure [] (.idx 1) [(g l29 0), (g l30 0)] fun v33 =>
                      .load [] v33 1 fun l34 =>
                      .pure [] (.bin .eql .int) [(g l34 0), (g vs 38)] fun v35 =>
                      .br v35 (
                        .chk (.eqN r1 r1) <|
                        .chk (.eqN r1 r1) <|
                        .ret (.tuple #[(.agg #[(.int .i64 1), (.int .i64 0), (g l30 0)]), (.int .i64 0)]) []) (
                        .pure [] (.bin .add .int) [(g l30 0), (.int .i64 1)] fun v36 =>
                        .cont 82 C82 [v36] [E [(g vs 38)], E [(.pointer (some ⟨r0, 0, none⟩))], E [(.pointer (some ⟨r1, 0, none⟩))], E [(.int .i64 1)], E [(.int .i64 0)], E [(g l29 0)], E [(g l29 0), (g l29 1), (g l29 2), (g l29 3)], E [(.int .i64 0)], E [(.pointer (some ⟨r0, 0, none⟩)), (g vs 0), (g vs 1), (g vs 2), (g vs 3), (g vs 4), (g vs 5), (g vs 6), (g vs 7), (g vs 8), (g vs 9), (g vs 10), (g vs 11), (g vs 12), (g vs 13), (g vs 14), (g vs 15), (g vs 16), (g vs 17), (g vs 18), (g vs 19), (g vs 20), (g vs 21), (g vs 22), (g vs 23), (g vs 24), (g vs 25), (g vs 26), (g vs 27), (g vs 28), (g vs 29), (g vs 30), (g vs 31), (g vs 32), (g vs 33), (g vs 34), (g vs 35), (g vs 36), (g vs 37)], E [(.pointer (some ⟨r1, 0, none⟩)), (.int .i64 0), (.int .i64 0), (.int .i64 0)]])) (
                      .loop 95 8 [(.int .i64 0)] fun C95 l37 =>
                        .pure [] .len [(g l29 1)] fun v38 =>
                        .pure [] (.bin .lss .int) [(g l37 0), v38] fun v39 =>
                        .br v39 (
                          .pure [] (.idx 1) [(g l29 1), (g l37 0)] fun v40 =>
                          .load [] v40 1 fun l41 =>
                          .pure [] (.bin .eql .int) [(g l41 0), (g vs 38)] fun v42 =>
                          .br v42 (
                            .chk (.eqN r1 r1) <|
                            .chk (.eqN r1 r1) <|
                            .ret (.tuple #[(.agg #[(.int .i64 1), (.int .i64 1), (g l37 0)]), (.int .i64 0)]) []) (
                            .pure [] (.bin .add .int) [(g l37 0), (.int .i64 1)] fun v43 =>
                            .cont 95 C95 [v43] [E [(g vs 38)], E [(.pointer (some ⟨r0, 0, none⟩))], E [(.pointer (some ⟨r1, 0, none⟩))], E [(.int .i64 1)], E [(.int .i64 1)], E [(g l29 1)], E [(g l29 0), (g l29 1), (g l29 2), (g l29 3)], E [(.int .i64 1)], E [(.pointer (some ⟨r0, 0, none⟩)), (g vs 0), (g vs 1), (g vs 2), (g vs 3), (g vs 4), (g vs 5), (g vs 6), (g vs 7), (g vs 8), (g vs 9), (g vs 10), (g vs 11), (g vs 12), (g vs 13), (g vs 14), (g vs 15), (g vs 16), (g vs 17), (g vs 18), (g vs 19), (g vs 20), (g vs 21), (g vs 22), (g vs 23), (g vs 24), (g vs 25), (g vs 26), (g vs 27), (g vs 28), (g vs 29), (g vs 30), (g vs 31), (g vs 32), (g vs 33), (g vs 34), (g vs 35), (g vs 36), (g vs 37)], E [(.pointer (some ⟨r1, 0, none⟩)), (.int .i64 0), (.int .i64 0), (.int .i64 0)]])) (
                          .loop 108 8 [(.int .i64 0)] fun C108 l44 =>
                            .pure [] .len [(g l29 2)] fun v45 =>
                            .pure [] (.bin .lss .int) [(g l44 0), v45] fun v46 =>
                            .br v46 (
                              .pure [] (.idx 1) [(g l29 2), (g l44 0)] fun v47 =>
                              .load [] v47 1 fun l48 =>
                              .pure [] (.bin .eql .int) [(g l48 0), (g vs 38)] fun v49 =>
                              .br v49 (
                                .chk (.eqN r1 r1) <|
                                .chk (.eqN r1 r1) <|
                                .ret (.tuple #[(.agg #[(.int .i64 1), (.int .i64 2), (g l44 0)]), (.int .i64 0)]) []) (
                                .pure [] (.bin .add .int) [(g l44 0), (.int .i64 1)] fun v50 =>
                                .cont 108 C108 [v50] [E [(g vs 38)], E [(.pointer (some ⟨r0, 0, none⟩))], E [(.pointer (some ⟨r1, 0, none⟩))], E [(.int .i64 1)], E [(.int .i64 2)], E [(g l29 2)], E [(g l29 0), (g l29 1), (g l29 2), (g l29 3)], E [(.int .i64 2)], E [(.pointer (some ⟨r0, 0, none⟩)), (g vs 0), (g vs 1), (g vs 2), (g vs 3), (g vs 4), (g vs 5), (g vs 6), (g vs 7), (g vs 8), (g vs 9), (g vs 10), (g vs 11), (g vs 12), (g vs 13), (g vs 14), (g vs 15), (g vs 16), (g vs 17), (g vs 18), (g vs 19), (g vs 20), (g vs 21), (g vs 22), (g vs 23), (g vs 24), (g vs 25), (g vs 26), (g vs 27), (g vs 28), (g vs 29), (g vs 30), (g vs 31), (g vs 32), (g vs 33), (g vs 34), (g vs 35), (g vs 36), (g vs 37)], E [(.pointer (some ⟨r1, 0, none⟩)), (.int .i64 0), (.int .i64 0), (.int .i64 0)]])) (
                              .loop 121 8 [(.int .i64 0)] fun C121 l51 =>
                                .pure [] .len [(g l29 3)] fun v52 =>
                                .pure [] (.bin .lss .int) [(g l51 0), v52] fun v53 =>
                                .br v53 (
                                  .pure [] (.idx 1) [(g l29 3), (g l51 0)] fun v54 =>
                                  .load [] v54 1 fun l55 =>
                                  .pure [] (.bin .eql .int) [(g l55 0), (g vs 38)] fun v56 =>
                                  .br v56 (
                                    .chk (.eqN r1 r1) <|
                                    .chk (.eqN r1 r1) <|
                                    .ret (.tuple #[(.agg #[(.int .i64 1), (.int .i64 3), (g l51 0)]), (.int .i64 0)]) []) (
                                    .pure [] (.bin .add .int) [(g l51 0), (.int .i64 1)] fun v57 =>
                                    .cont 121 C121 [v57] [E [(g vs 38)], E [(.pointer (some ⟨r0, 0, none⟩))], E [(.pointer (some ⟨r1, 0, none⟩))], E [(.int .i64 1)], E [(.int .i64 3)], E [(g l29 3)], E [(g l29 0), (g l29 1), (g l29 2), (g l29 3)], E [(.int .i64 3)], E [(.pointer (some ⟨r0, 0, none⟩)), (g vs 0), (g vs 1), (g vs 2), (g vs 3), (g vs 4), (g vs 5), (g vs 6), (g vs 7), (g vs 8), (g vs 9), (g vs 10), (g vs 11), (g vs 12), (g vs 13), (g vs 14), (g vs 15), (g vs 16), (g vs 17), (g vs 18), (g vs 19), (g vs 20), (g vs 21), (g vs 22), (g vs 23), (g vs 24), (g vs 25), (g vs 26), (g vs 27), (g vs 28), (g vs 29), (g vs 30), (g vs 31), (g vs 32), (g vs 33), (g vs 34), (g vs 35), (g vs 36), (g vs 37)], E [(.pointer (some ⟨r1, 0, none⟩)), (.int .i64 0), (.int .i64 0), (.int .i64 0)]])) (
                                  .loop 135 14 [(.int .i64 0)] fun C135 l58 =>
                                    .chk (.eqN r0 r0) <|
                                    .pure [] .len [(g vs 29)] fun v59 =>
                                    .pure [] (.bin .lss .int) [(g l58 0), v59] fun v60 =>
                                    .br v60 (
                                      .chk (.eqN r0 r0) <|
                                      .pure [] (.idx 5) [(g vs 29), (g l58 0)] fun v61 =>
                                      .load [] v61 5 fun l62 =>
                                      .newbox fun r2 =>
                                      .chk (.eqN r2 r2) <|
                                      .chk (.eqN r2 r2) <|
                                      .pure [] (.bin .eql .int) [(g l62 3), (.int .i64 (-1))] fun v63 =>
                                      .chk (.eqN r2 r2) <|
                                      .chk (.eqV v63 v63) <|
                                      .chk (.eqV v63 v63) <|
                                      .chk (.eqV v63 v63) <|
                                      .pure [] (.bin .eql .int) [(g l62 1), (g vs 38)] fun v64 =>
                                      .chk (.eqV v63 v63) <|
                                      .pure [] .pick [v63, v64, (.bool false)] fun v65 =>
                                      .br v65 (
                                        .chk (.eqN r2 r2) <|
                                        .chk (.eqN r1 r1) <|
                                        .chk (.eqN r1 r1) <|
                                        .ret (.tuple #[(.agg #[(g l62 0), (.int .i64 4), (g l58 0)]), (.int .i64 0)]) []) (
                                        .pure [] (.bin .add .int) [(g l58 0), (.int .i64 1)] fun v66 =>
                                        .cont 135 C135 [v66] [E [(g vs 38)], E [(.pointer (some ⟨r0, 0, none⟩))], E [(.pointer (some ⟨r1, 0, none⟩))], E [(.pointer (some ⟨r0, 0, none⟩)), (g vs 0), (g vs 1), (g vs 2), (g vs 3), (g vs 4), (g vs 5), (g vs 6), (g vs 7), (g vs 8), (g vs 9), (g vs 10), (g vs 11), (g vs 12), (g vs 13), (g vs 14), (g vs 15), (g vs 16), (g vs 17), (g vs 18), (g vs 19), (g vs 20), (g vs 21), (g vs 22), (g vs 23), (g vs 24), (g vs 25), (g vs 26), (g vs 27), (g vs 28), (g vs 29), (g vs 30), (g vs 31), (g vs 32), (g vs 33), (g vs 34), (g vs 35), (g vs 36), (g vs 37)], E [(.pointer (some ⟨r1, 0, none⟩)), (.int .i64 0), (.int .i64 0), (.int .i64 0)]])) (
                                      .chk (.eqN r1 r1) <|
                                      .chk (.eqN r1 r1) <|
                                      .ret (.tuple #[(.agg #[(.int .i64 0), (.int .i64 0), (.int .i64 0)]), (.int .i64 9)]) [])))))))))
theorem T_zeitnotref15_Where_eq (vs : List Value) : sxFun PP Tryz.f20 (mkOpts okL [(43, [5, 6, 7, 8])] [(2, .unroll 3), (5, .unroll 5), (8, .inv [9] [1, 2, 4, 6, 7, 8, 20, 21] [(2, []), (4, [])]), (14, .inv [10] [1, 2, 4] [(2, []), (4, [])])] []) vs = T_zeitnotref15_Where vs := by kernel_rfl
theorem run_zeitnotref15_Where {args vs : List Value} (ha : entryArgs PP Tryz.f20 args = some vs) (ho : Ones vs) {H : Heap} {O : Own} {Q : Value → Heap → Own → Prop} (h : (T_zeitnotref15_Where vs).den PP Q H O) : Triple PP F_zeitnotref15_Where args H O Q :=
  triple_run mixed (mkOpts_ok okL_ok _ _ _) Tryz.func20 T_zeitnotref15_Where_eq ha ho h

abbrev F_zeitnotref15_Index : FuncId := 21
/- zeitnot/zeitnotref15.Index -/
def T_zeitnotref15_Index (vs : List Value) : Tree :=
  .newbox fun r0 =>
  .loop 3 2 [(.int .i64 0)] fun C3 l0 =>
    .chk (.eqN r0 r0) <|
    .pure [] .len [(g vs 0)] fun v1 =>
    .pure [] (.bin .lss .int) [(g l0 0), v1] fun v2 =>
    .br v2 (
      .chk (.eqN r0 r0) <|
      .pure [] (.idx 12) [(g vs 0), (g l0 0)] fun v3 =>
      .chk (.ptr [] v3) <|
      .load [] v3 1 fun l4 =>
      .pure [] (.bin .eql .int) [(g l4 0), (g vs 38)] fun v5 =>
      .br v5 (
        .ret (g l0 0) []) (
        .pure [] (.bin .add .int) [(g l0 0), (.int .i64 1)] fun v6 =>
        .cont 3 C3 [v6] [E [(g vs 38)], E [(.pointer (some ⟨r0, 0, none⟩))], E [(.pointer (some ⟨r0, 0, none⟩)), (g vs 0), (g vs 1), (g vs 2), (g vs 3), (g vs 4), (g vs 5), (g vs 6), (g vs 7), (g vs 8), (g vs 9), (g vs 10), (g vs 11), (g vs 12), (g vs 13), (g vs 14), (g vs 15), (g vs 16), (g vs 17), (g vs 18), (g vs 19), (g vs 20), (g vs 21), (g vs 22), (g vs 23), (g vs 24), (g vs 25), (g vs 26), (g vs 27), (g vs 28), (g vs 29), (g vs 30), (g vs 31), (g vs 32), (g vs 33), (g vs 34), (g vs 35), (g vs 36), (g vs 37)]])) (
      .ret (.int .i64 (-1)) [])
theorem T_zeitnotref15_Index_eq (vs : List Value) : sxFun PP Tryz.f21 (mkOpts okL [(43, [5, 6, 7, 8])] [(2, .inv [5] [1, 2] [(2, [])])] []) vs = T_zeitnotref15_Index vs := by kernel_rfl
theorem run_zeitnotref15_Index {args vs : List Value} (ha : entryArgs PP Tryz.f21 args = some vs) (ho : Ones vs) {H : Heap} {O : Own} {Q : Value → Heap → Own → Prop} (h : (T_zeitnotref15_Index vs).den PP Q H O) : Triple PP F_zeitnotref15_Index args H O Q :=
  triple_run mixed (mkOpts_ok okL_ok _ _ _) Tryz.func21 T_zeitnotref15_Index_eq ha ho h

abbrev F_zeitnotref14_Valid : FuncId := 22
/- zeitnot/zeitnotref14.Valid -/
def T_zeitnotref14_Valid (vs : List Value) : Tree :=
  .newbox fun r0 =>
  .chk (.eqN r0 r0) <|
  .pure [] (.bin .lss .int) [(g vs 0), (.int .i64 1)] fun v0 =>
  .chk (.eqN r0 r0) <|
  .chk (.eqV v0 v0) <|
  .chk (.eqV v0 v0) <|
  .pure [] (.bin .gtr .int) [(g vs 0), (.int .i64 500)] fun v1 =>
  .chk (.eqV v0 v0) <|
  .pure [] .pick [v0, (.bool true), v1] fun v2 =>
  .chk (.eqN r0 r0) <|
  .chk (.eqV v2 v2) <|
  .chk (.eqV v2 v2) <|
  .pure [] (.bin .lss .int) [(g vs 1), (.int .i64 (-1))] fun v3 =>
  .chk (.eqV v2 v2) <|
  .pure [] .pick [v2, (.bool true), v3] fun v4 =>
  .chk (.eqN r0 r0) <|
  .chk (.eqV v4 v4) <|
  .chk (.eqV v4 v4) <|
  .pure [] (.bin .gtr .int) [(g vs 1), (.int .i64 399)] fun v5 =>
  .chk (.eqV v4 v4) <|
  .pure [] .pick [v4, (.bool true), v5] fun v6 =>
  .chk (.eqN r0 r0) <|
  .chk (.eqV v6 v6) <|
  .chk (.eqV v6 v6) <|
  .pure [] (.bin .lss .int) [(g vs 2), (.int .i64 0)] fun v7 =>
  .chk (.eqV v6 v6) <|
  .pure [] .pick [v6, (.bool true), v7] fun v8 =>
  .chk (.eqN r0 r0) <|
  .chk (.eqV v8 v8) <|
  .chk (.eqV v8 v8) <|
  .pure [] (.bin .gtr .int) [(g vs 2), (.int .i64 1)] fun v9 =>
  .chk (.eqV v8 v8) <|
  .pure [] .pick [v8, (.bool true), v9] fun v10 =>
  .br v10 (
    .ret (.bool false) []) (
    .chk (.eqN r0 r0) <|
    .pure [] (.bin .geq .int) [(g vs 1), (.int .i64 0)] fun v11 =>
    .chk (.eqN r0 r0) <|
    .chk (.eqV v11 v11) <|
    .chk (.eqV v11 v11) <|
    .pure [] (.bin .neq .int) [(g vs 3), (.int .i64 0)] fun v12 =>
    .chk (.eqV v11 v11) <|
    .chk (.eqN r0 r0) <|
    .chk (.eqV v12 v12) <|
    .chk (.eqV v11 v11) <|
    .chk (.eqV v12 v12) <|
    .chk (.eqV v11 v11) <|
    .pure [] (.bin .neq .int) [(g vs 4), (.int .i64 0)] fun v13 =>
    .chk (.eqV v11 v11) <|
    .chk (.eqV v12 v12) <|
    .chk (.eqV v11 v11) <|
    .pure [] .pick [v12, (.bool true), v13] fun v14 =>
    .chk (.eqV v11 v11) <|
    .pure [] .pick [v11, v14, (.bool false)] fun v15 =>
    .br v15 (
      .ret (.bool false) []) (
      .chk (.eqN r0 r0) <|
      .call false 65 [(g vs 3)] [] [] .one fun l16 _ =>
      .br (g l16 0) (
        .chk (.eqN r0 r0) <|
        .call false 65 [(g vs 4)] [] [] .one fun l17 _ =>
        .br (g l17 0) (
          .chk (.eqN r0 r0) <|
          .call false 65 [(g vs 5)] [] [] .one fun l18 _ =>
          .br (g l18 0) (
            .chk (.eqN r0 r0) <|
            .call false 65 [(g vs 6)] [] [] .one fun l19 _ =>
            .br (g l19 0) (
              .chk (.eqN r0 r0) <|
              .call false 65 [(g vs 7)] [] [] .one fun l20 _ =>
              .br (g l20 0) (
                .chk (.eqN r0 r0) <|
                .call false 65 [(g vs 8)] [] [] .one fun l21 _ =>
                .ret (g l21 0) []) (
                .ret (.bool false) [])) (
              .ret (.bool false) [])) (
            .ret (.bool false) [])) (
          .ret (.bool false) [])) (
        .ret (.bool false) [])))
theorem T_zeitnotref14_Valid_eq (vs : List Value) : sxFun PP Tryz.f22 (mkOpts okL [(43, [5, 6, 7, 8])] [] []) vs = T_zeitnotref14_Valid vs := by kernel_rfl
theorem run_zeitnotref14_Valid {args vs : List Value} (ha : entryArgs PP Tryz.f22 args = some vs) (ho : Ones vs) {H : Heap} {O : Own} {Q : Value → Heap → Own → Prop} (h : (T_zeitnotref14_Valid vs).den PP Q H O) : Triple PP F_zeitnotref14_Valid args H O Q :=
  triple_run mixed (mkOpts_ok okL_ok _ _ _) Tryz.func22 T_zeitnotref14_Valid_eq ha ho h

abbrev F_zeitnotref15_Set : FuncId := 23
/- zeitnot/zeitnotref15.Set -/
def T_zeitnotref15_Set (vs : List Value) : Tree :=
  .newbox fun r0 =>
  .newbox fun r1 =>
  .newbox fun r2 =>
  .chk (.eqN r0 r0) <|
  .call false 9 [(.agg #[(g vs 0), (g vs 1), (g vs 2), (g vs 3), (g vs 4), (g vs 5), (g vs 6), (g vs 7), (g vs 8), (g vs 9), (g vs 10), (g vs 11), (g vs 12), (g vs 13), (g vs 14), (g vs 15), (g vs 16), (g vs 17), (g vs 18), (g vs 19), (g vs 20), (g vs 21), (g vs 22), (g vs 23), (g vs 24), (g vs 25), (g vs 26), (g vs 27), (g vs 28), (g vs 29), (g vs 30), (g vs 31), (g vs 32), (g vs 33), (g vs 34), (g vs 35), (g vs 36), (g vs 37)])] [] [] (.agg 38) fun l0 _ =>
  .chk (.eqN r0 r0) <|
  .chk (.eqN r0 r0) <|
  .chk (.eqN r1 r1) <|
  .call false 21 [(.agg #[(g l0 0), (g l0 1), (g l0 2), (g l0 3), (g l0 4), (g l0 5), (g l0 6), (g l0 7), (g l0 8), (g l0 9), (g l0 10), (g l0 11), (g l0 12), (g l0 13), (g l0 14), (g l0 15), (g l0 16), (g l0 17), (g l0 18), (g l0 19), (g l0 20), (g l0 21), (g l0 22), (g l0 23), (g l0 24), (g l0 25), (g l0 26), (g l0 27), (g l0 28), (g l0 29), (g l0 30), (g l0 31), (g l0 32), (g l0 33), (g l0 34), (g l0 35), (g l0 36), (g l0 37)]), (g vs 38)] [] [] .one fun l1 _ =>
  .pure [] (.bin .geq .int) [(g l1 0), (.int .i64 0)] fun v2 =>
  .br v2 (
    .chk (.eqN r0 r0) <|
    .chk (.eqN r1 r1) <|
    .pure [] (.idx 12) [(g l0 0), (g l1 0)] fun v3 =>
    .chk (.ptr [] v3) <|
    .store v3 [(g vs 38), (g vs 39), (g vs 40), (g vs 41), (g vs 42), (g vs 43), (g vs 44), (g vs 45), (g vs 46), (g vs 47), (g vs 48), (g vs 49)] <|
    .chk (.eqN r0 r0) <|
    .chk (.eqN r2 r2) <|
    .chk (.eqN r2 r2) <|
    .ret (.agg #[(g l0 0), (g l0 1), (g l0 2), (g l0 3), (g l0 4), (g l0 5), (g l0 6), (g l0 7), (g l0 8), (g l0 9), (g l0 10), (g l0 11), (g l0 12), (g l0 13), (g l0 14), (g l0 15), (g l0 16), (g l0 17), (g l0 18), (g l0 19), (g l0 20), (g l0 21), (g l0 22), (g l0 23), (g l0 24), (g l0 25), (g l0 26), (g l0 27), (g l0 28), (g l0 29), (g l0 30), (g l0 31), (g l0 32), (g l0 33), (g l0 34), (g l0 35), (g l0 36), (g l0 37)]) []) (
    .chk (.eqN r0 r0) <|
    .chk (.eqN r2 r2) <|
    .chk (.eqN r2 r2) <|
    .ret (.agg #[(g l0 0), (g l0 1), (g l0 2), (g l0 3), (g l0 4), (g l0 5), (g l0 6), (g l0 7), (g l0 8), (g l0 9), (g l0 10), (g l0 11), (g l0 12), (g l0 13), (g l0 14), (g l0 15), (g l0 16), (g l0 17), (g l0 18), (g l0 19), (g l0 20), (g l0 21), (g l0 22), (g l0 23), (g l0 24), (g l0 25), (g l0 26), (g l0 27), (g l0 28), (g l0 29), (g l0 30), (g l0 31), (g l0 32), (g l0 33), (g l0 34), (g l0 35), (g l0 36), (g l0 37)]) [])
theorem T_zeitnotref15_Set_eq (vs : List Value) : sxFun PP Tryz.f23 (mkOpts okL [(43, [5, 6, 7, 8])] [] []) vs = T_zeitnotref15_Set vs := by kernel_rfl
theorem run_zeitnotref15_Set {args vs : List Value} (ha : entryArgs PP Tryz.f23 args = some vs) (ho : Ones vs) {H : Heap} {O : Own} {Q : Value → Heap → Own → Prop} (h : (T_zeitnotref15_Set vs).den PP Q H O) : Triple PP F_zeitnotref15_Set args H O Q :=
  triple_run mixed (mkOpts_ok okL_ok _ _ _) Tryz.func23 T_zeitnotref15_Set_eq ha ho h

abbrev F_zeitnotref15_Creatures : FuncId := 24
abbrev F_zeitnotref15_Ints : FuncId := 25
/- zeitnot/zeitnotref15.Ints -/
def T_zeitnotref15_Ints (vs : List Value) : Tree :=
  .pure [] .len [(g vs 0)] fun v0 =>
  .pure [] .len [(g vs 1)] fun v1 =>
  .pure [] (.bin .neq .int) [v0, v1] fun v2 =>
  .br v2 (
    .ret (.bool false) []) (
    .loop 7 4 [(.int .i64 0)] fun C7 l3 =>
      .pure [] .len [(g vs 0)] fun v4 =>
      .pure [] (.bin .lss .int) [(g l3 0), v4] fun v5 =>
      .br v5 (
        .pure [] (.idx 1) [(g vs 0), (g l3 0)] fun v6 =>
        .load [] v6 1 fun l7 =>
        .pure [] (.idx 1) [(g vs 1), (g l3 0)] fun v8 =>
        .load [] v8 1 fun l9 =>
        .pure [] (.bin .neq .int) [(g l7 0), (g l9 0)] fun v10 =>
        .br v10 (
          .ret (.bool false) []) (
          .pure [] (.bin .add .int) [(g l3 0), (.int .i64 1)] fun v11 =>
          .cont 7 C7 [v11] [E [(g vs 0)], E [(g vs 1)]])) (
        .ret (.bool true) []))
theorem T_zeitnotref15_Ints_eq (vs : List Value) : sxFun PP Tryz.f25 (mkOpts okL [(43, [5, 6, 7, 8])] [(4, .inv [5] [0, 1] [])] []) vs = T_zeitnotref15_Ints vs := by kernel_rfl
theorem run_zeitnotref15_Ints {args vs : List Value} (ha : entryArgs PP Tryz.f25 args = some vs) (ho : Ones vs) {H : Heap} {O : Own} {Q : Value → Heap → Own → Prop} (h : (T_zeitnotref15_Ints vs).den PP Q H O) : Triple PP F_zeitnotref15_Ints args H O Q :=
  triple_run mixed (mkOpts_ok okL_ok _ _ _) Tryz.func25 T_zeitnotref15_Ints_eq ha ho h

abbrev F_board_Creatures : FuncId := 26
abbrev F_board_Token : FuncId := 27
abbrev F_zeitnotref15_Token : FuncId := 28
abbrev F_board_Move : FuncId := 29
abbrev F_board_Remove : FuncId := 30
abbrev F_board_Draw : FuncId := 31
abbrev F_zeitnotref15_Move : FuncId := 32
abbrev F_zeitnotref15_Remove : FuncId := 33
abbrev F_zeitnotref15_Draw : FuncId := 34
abbrev F_zeitnotref15_Zones : FuncId := 35
/- zeitnot/zeitnotref15.Zones -/
def T_zeitnotref15_Zones (vs : List Value) : Tree :=
  .newbox fun r0 =>
  .newbox fun r1 =>
  .chk (.eqN r0 r0) <|
  .chk (.eqN r0 r0) <|
  .chk (.eqN r0 r0) <|
  .chk (.eqN r0 r0) <|
  .chk (.eqN r1 r1) <|
  .chk (.eqN r1 r1) <|
  .ret (.agg #[(g vs 5), (g vs 6), (g vs 7), (g vs 8)]) []
theorem T_zeitnotref15_Zones_eq (vs : List Value) : sxFun PP Tryz.f35 (mkOpts okL [(43, [5, 6, 7, 8])] [] []) vs = T_zeitnotref15_Zones vs := by kernel_rfl
theorem run_zeitnotref15_Zones {args vs : List Value} (ha : entryArgs PP Tryz.f35 args = some vs) (ho : Ones vs) {H : Heap} {O : Own} {Q : Value → Heap → Own → Prop} (h : (T_zeitnotref15_Zones vs).den PP Q H O) : Triple PP F_zeitnotref15_Zones args H O Q :=
  triple_run mixed (mkOpts_ok okL_ok _ _ _) Tryz.func35 T_zeitnotref15_Zones_eq ha ho h

abbrev F_board_New : FuncId := 36
/- zeitnot/board.New -/
def T_board_New (vs : List Value) : Tree :=
  .newbox fun r0 =>
  .newbox fun r1 =>
  .call false 44 [(g vs 0), (.int .i64 1), (.int .i64 9999)] [] [] .one fun l0 _ =>
  .pure [] .not [(g l0 0)] fun v1 =>
  .chk (.eqN r0 r0) <|
  .chk (.eqV v1 v1) <|
  .chk (.eqV v1 v1) <|
  .pure [] .len [(g vs 1)] fun v2 =>
  .chk (.eqN r0 r0) <|
  .chk (.eqV v1 v1) <|
  .chk (.eqV v1 v1) <|
  .pure [] .len [(g vs 2)] fun v3 =>
  .chk (.eqV v1 v1) <|
  .chk (.eqV v1 v1) <|
  .pure [] (.bin .add .int) [v2, v3] fun v4 =>
  .chk (.eqV v1 v1) <|
  .pure [] (.bin .gtr .int) [v4, (.int .i64 500)] fun v5 =>
  .chk (.eqV v1 v1) <|
  .pure [] .pick [v1, (.bool true), v5] fun v6 =>
  .br v6 (
    .chk (.eqN r1 r1) <|
    .chk (.eqN r1 r1) <|
    .ret (.tuple #[(.agg #[(.slice none 0 0), (.int .i64 0), (.int .i64 0), (.int .i64 0), (.int .i64 0), (.int .i64 0), (.slice none 0 0), (.slice none 0 0), (.slice none 0 0), (.slice none 0 0), (.bool false), (.bool false), (.bool false), (.int .i64 0), (.int .i64 0), (.int .i64 0), (.int .i64 0), (.int .i64 0), (.int .i64 0), (.int .i64 0), (.slice none 0 0), (.slice none 0 0), (.slice none 0 0), (.slice none 0 0), (.bool false), (.bool false), (.bool false), (.int .i64 0), (.int .i64 0), (.slice none 0 0), (.slice none 0 0), (.slice none 0 0), (.slice none 0 0), (.int .i64 0), (.int .i64 0), (.int .i64 0), (.int .i64 0), (.int .i64 0)]), (.int .i64 2)]) []) (
    .newbox fun r2 =>
    .chk (.eqN r2 r2) <|
    .chk (.eqN r0 r0) <|
    .chk (.eqN r2 r2) <|
    .pure [] .len [(g vs 1)] fun v7 =>
    .loop 38 10 [(.int .i64 0), (.slice none 0 0), (.slice none 0 0), (.slice none 0 0)] fun C38 l8 =>
      .pure [] (.bin .lss .int) [(g l8 0), v7] fun v9 =>
      .br v9 (
        .pure [] (.idx 1) [(g vs 1), (g l8 0)] fun v10 =>
        .load [] v10 1 fun l11 =>
        .call false 44 [(g l11 0), (.int .i64 0), (.int .i64 399)] [] [] .one fun l12 _ =>
        .pure [] .not [(g l12 0)] fun v13 =>
        .br v13 (
          .chk (.eqN r1 r1) <|
          .chk (.eqN r1 r1) <|
          .ret (.tuple #[(.agg #[(.slice none 0 0), (.int .i64 0), (.int .i64 0), (.int .i64 0), (.int .i64 0), (.int .i64 0), (.slice none 0 0), (.slice none 0 0), (.slice none 0 0), (.slice none 0 0), (.bool false), (.bool false), (.bool false), (.int .i64 0), (.int .i64 0), (.int .i64 0), (.int .i64 0), (.int .i64 0), (.int .i64 0), (.int .i64 0), (.slice none 0 0), (.slice none 0 0), (.slice none 0 0), (.slice none 0 0), (.bool false), (.bool false), (.bool false), (.int .i64 0), (.int .i64 0), (.slice none 0 0), (.slice none 0 0), (.slice none 0 0), (.slice none 0 0), (.int .i64 0), (.int .i64 0), (.int .i64 0), (.int .i64 0), (.int .i64 0)]), (.int .i64 2)]) []) (
          .chk (.eqN r2 r2) <|
          .pure [] .len [(g l8 1)] fun v14 =>
          .pure [] (.bin .add .int) [v14, (.int .i64 1)] fun v15 =>
          .chk (.eqN r2 r2) <|
          .call false 82 [v15, (g l11 0), (.int .i64 0)] [] [] (.agg 12) fun l16 _ =>
          .newbox fun r3 =>
          .prim (.bi .append #[22, 22] 22) [(g l8 1), (.slice (some ⟨r3, 0, none⟩) 1 1)] [⟨r3, 40, [(g l16 0), (g l16 1), (g l16 2), (g l16 3), (g l16 4), (g l16 5), (g l16 6), (g l16 7), (g l16 8), (g l16 9), (g l16 10), (g l16 11)]⟩] [] .one fun l17 _ =>
          .chk (.eqN r2 r2) <|
          .chk (.eqN r2 r2) <|
          .newbox fun r4 =>
          .prim (.bi .append #[25, 25] 25) [(g l8 2), (.slice (some ⟨r4, 0, none⟩) 1 1)] [⟨r4, 3, [v15]⟩] [] .one fun l18 _ =>
          .chk (.eqN r2 r2) <|
          .pure [] (.bin .add .int) [(g l8 0), (.int .i64 1)] fun v19 =>
          .cont 38 C38 [v19, (g l17 0), (g l18 0), (g l8 3)] [E [(g vs 0)], E [(.pointer (some ⟨r1, 0, none⟩))], E [(.pointer (some ⟨r2, 0, none⟩))], E [(.int .i64 0)], E [(.pointer (some ⟨r2, 1, none⟩))], E [(g vs 1), (g vs 2)], E [(.int .i64 0)], E [(g vs 1)], E [v7], E [(.pointer (some ⟨r1, 0, none⟩)), (.slice none 0 0), (.int .i64 0), (.int .i64 0), (.int .i64 0), (.int .i64 0), (.int .i64 0), (.slice none 0 0), (.slice none 0 0), (.slice none 0 0), (.slice none 0 0), (.bool false), (.bool false), (.bool false), (.int .i64 0), (.int .i64 0), (.int .i64 0), (.int .i64 0), (.int .i64 0), (.int .i64 0), (.int .i64 0), (.slice none 0 0), (.slice none 0 0), (.slice none 0 0), (.slice none 0 0), (.bool false), (.bool false), (.bool false), (.int .i64 0), (.int .i64 0), (.slice none 0 0), (.slice none 0 0), (.slice none 0 0), (.slice none 0 0), (.int .i64 0), (.int .i64 0), (.int .i64 0), (.int .i64 0), (.int .i64 0)], E [(.pointer (some ⟨r2, 0, none⟩)), (.tuple #[]), (g vs 0), (.int .i64 0), (.int .i64 0), (.int .i64 0), (.int .i64 0), (.tuple #[]), (.slice none 0 0), (.slice none 0 0), (.slice none 0 0), (.bool false), (.bool false), (.bool false), (.int .i64 0), (.int .i64 0), (.int .i64 0), (.int .i64 0), (.int .i64 0), (.int .i64 0), (.int .i64 0), (.tuple #[]), (.slice none 0 0), (.slice none 0 0), (.slice none 0 0), (.bool false), (.bool false), (.bool false), (.int .i64 0), (.int .i64 0), (.slice none 0 0), (.slice none 0 0), (.slice none 0 0), (.slice none 0 0), (.int .i64 0), (.int .i64 0), (.int .i64 0), (.int .i64 (-1)), (.int .i64 0)]])) (
        .chk (.eqN r2 r2) <|
        .pure [] .len [(g vs 2)] fun v20 =>
        .loop 59 10 [(.int .i64 0), (g l8 1), (g l8 2), (g l8 3)] fun C59 l21 =>
          .pure [] (.bin .lss .int) [(g l21 0), v20] fun v22 =>
          .br v22 (
            .pure [] (.idx 1) [(g vs 2), (g l21 0)] fun v23 =>
            .load [] v23 1 fun l24 =>
            .call false 44 [(g l24 0), (.int .i64 0), (.int .i64 399)] [] [] .one fun l25 _ =>
            .pure [] .not [(g l25 0)] fun v26 =>
            .br v26 (
              .chk (.eqN r1 r1) <|
              .chk (.eqN r1 r1) <|
              .ret (.tuple #[(.agg #[(.slice none 0 0), (.int .i64 0), (.int .i64 0), (.int .i64 0), (.int .i64 0), (.int .i64 0), (.slice none 0 0), (.slice none 0 0), (.slice none 0 0), (.slice none 0 0), (.bool false), (.bool false), (.bool false), (.int .i64 0), (.int .i64 0), (.int .i64 0), (.int .i64 0), (.int .i64 0), (.int .i64 0), (.int .i64 0), (.slice none 0 0), (.slice none 0 0), (.slice none 0 0), (.slice none 0 0), (.bool false), (.bool false), (.bool false), (.int .i64 0), (.int .i64 0), (.slice none 0 0), (.slice none 0 0), (.slice none 0 0), (.slice none 0 0), (.int .i64 0), (.int .i64 0), (.int .i64 0), (.int .i64 0), (.int .i64 0)]), (.int .i64 2)]) []) (
              .chk (.eqN r2 r2) <|
              .pure [] .len [(g l21 1)] fun v27 =>
              .pure [] (.bin .add .int) [v27, (.int .i64 1)] fun v28 =>
              .chk (.eqN r2 r2) <|
              .call false 82 [v28, (g l24 0), (.int .i64 1)] [] [] (.agg 12) fun l29 _ =>
              .newbox fun r5 =>
              .prim (.bi .append #[22, 22] 22) [(g l21 1), (.slice (some ⟨r5, 0, none⟩) 1 1)] [⟨r5, 40, [(g l29 0), (g l29 1), (g l29 2), (g l29 3), (g l29 4), (g l29 5), (g l29 6), (g l29 7), (g l29 8), (g l29 9), (g l29 10), (g l29 11)]⟩] [] .one fun l30 _ =>
              .chk (.eqN r2 r2) <|
              .chk (.eqN r2 r2) <|
              .newbox fun r6 =>
              .prim (.bi .append #[25, 25] 25) [(g l21 3), (.slice (some ⟨r6, 0, none⟩) 1 1)] [⟨r6, 3, [v28]⟩] [] .one fun l31 _ =>
              .chk (.eqN r2 r2) <|
              .pure [] (.bin .add .int) [(g l21 0), (.int .i64 1)] fun v32 =>
              .cont 59 C59 [v32, (g l30 0), (g l21 2), (g l31 0)] [E [(g vs 0)], E [(.pointer (some ⟨r1, 0, none⟩))], E [(.pointer (some ⟨r2, 0, none⟩))], E [(.int .i64 1)], E [(.pointer (some ⟨r2, 15, none⟩))], E [(g vs 1), (g vs 2)], E [(.int .i64 1)], E [(g vs 2)], E [v20], E [(.pointer (some ⟨r1, 0, none⟩)), (.slice none 0 0), (.int .i64 0), (.int .i64 0), (.int .i64 0), (.int .i64 0), (.int .i64 0), (.slice none 0 0), (.slice none 0 0), (.slice none 0 0), (.slice none 0 0), (.bool false), (.bool false), (.bool false), (.int .i64 0), (.int .i64 0), (.int .i64 0), (.int .i64 0), (.int .i64 0), (.int .i64 0), (.int .i64 0), (.slice none 0 0), (.slice none 0 0), (.slice none 0 0), (.slice none 0 0), (.bool false), (.bool false), (.bool false), (.int .i64 0), (.int .i64 0), (.slice none 0 0), (.slice none 0 0), (.slice none 0 0), (.slice none 0 0), (.int .i64 0), (.int .i64 0), (.int .i64 0), (.int .i64 0), (.int .i64 0)], E [(.pointer (some ⟨r2, 0, none⟩)), (.tuple #[]), (g vs 0), (.int .i64 0), (.int .i64 0), (.int .i64 0), (.int .i64 0), (.tuple #[]), (.slice none 0 0), (.slice none 0 0), (.slice none 0 0), (.bool false), (.bool false), (.bool false), (.int .i64 0), (.int .i64 0), (g vs 0), (.int .i64 0), (.int .i64 0), (.int .i64 0), (.int .i64 0), (.tuple #[]), (.slice none 0 0), (.slice none 0 0), (.slice none 0 0), (.bool false), (.bool false), (.bool false), (.int .i64 0), (.int .i64 0), (.slice none 0 0), (.slice none 0 0), (.slice none 0 0), (.slice none 0 0), (.int .i64 0), (.int .i64 0), (.int .i64 0), (.int .i64 (-1)), (.int .i64 0)]])) (
            .chk (.eqN r2 r2) <|
            .chk (.eqN r1 r1) <|
            .chk (.eqN r1 r1) <|
            .ret (.tuple #[(.agg #[(g l21 1), (g vs 0), (.int .i64 0), (.int .i64 0), (.int .i64 0), (.int .i64 0), (g l21 2), (.slice none 0 0), (.slice none 0 0), (.slice none 0 0), (.bool false), (.bool false), (.bool false), (.int .i64 0), (.int .i64 0), (g vs 0), (.int .i64 0), (.int .i64 0), (.int .i64 0), (.int .i64 0), (g l21 3), (.slice none 0 0), (.slice none 0 0), (.slice none 0 0), (.bool false), (.bool false), (.bool false), (.int .i64 0), (.int .i64 0), (.slice none 0 0), (.slice none 0 0), (.slice none 0 0), (.slice none 0 0), (.int .i64 0), (.int .i64 0), (.int .i64 0), (.int .i64 (-1)), (.int .i64 0)]), (.int .i64 0)]) [])))
theorem T_board_New_eq (vs : List Value) : sxFun PP Tryz.f36 (mkOpts okL [(43, [5, 6, 7, 8])] [(5, .unroll 3), (10, .inv [42] [0, 4, 6, 7, 9, 28, 29, 40, 41] [(4, []), (6, [0, 6, 20])])] []) vs = T_board_New vs := by kernel_rfl
theorem run_board_New {args vs : List Value} (ha : entryArgs PP Tryz.f36 args = some vs) (ho : Ones vs) {H : Heap} {O : Own} {Q : Value → Heap → Own → Prop} (h : (T_board_New vs).den PP Q H O) : Triple PP F_board_New args H O Q :=
  triple_run mixed (mkOpts_ok okL_ok _ _ _) Tryz.func36 T_board_New_eq ha ho h

abbrev F_board_Encode : FuncId := 37
abbrev F_zeitnotref15_copied : FuncId := 38
/- zeitnot/zeitnotref15.copied -/
def T_zeitnotref15_copied (vs : List Value) : Tree :=
  .loop 3 3 [(.slice none 0 0), (.int .i64 0)] fun C3 l0 =>
    .pure [] .len [(g vs 0)] fun v1 =>
    .pure [] (.bin .lss .int) [(g l0 1), v1] fun v2 =>
    .br v2 (
      .pure [] (.idx 5) [(g vs 0), (g l0 1)] fun v3 =>
      .load [] v3 5 fun l4 =>
      .newbox fun r0 =>
      .chk (.eqN r0 r0) <|
      .chk (.eqN r0 r0) <|
      .prim (.bi .append #[75, 75] 75) [(.slice none 0 0), (g l4 4)] [] [] .one fun l5 _ =>
      .chk (.eqN r0 r0) <|
      .chk (.eqN r0 r0) <|
      .newbox fun r1 =>
      .prim (.bi .append #[29, 29] 29) [(g l0 0), (.slice (some ⟨r1, 0, none⟩) 1 1)] [⟨r1, 77, [(g l4 0), (g l4 1), (g l4 2), (g l4 3), (g l5 0)]⟩] [] .one fun l6 _ =>
      .pure [] (.bin .add .int) [(g l0 1), (.int .i64 1)] fun v7 =>
      .cont 3 C3 [(g l6 0), v7] [E [(g vs 0)]]) (
      .ret (g l0 0) [])
theorem T_zeitnotref15_copied_eq (vs : List Value) : sxFun PP Tryz.f38 (mkOpts okL [(43, [5, 6, 7, 8])] [(3, .inv [3, 4] [0] [])] []) vs = T_zeitnotref15_copied vs := by kernel_rfl
theorem run_zeitnotref15_copied {args vs : List Value} (ha : entryArgs PP Tryz.f38 args = some vs) (ho : Ones vs) {H : Heap} {O : Own} {Q : Value → Heap → Own → Prop} (h : (T_zeitnotref15_copied vs).den PP Q H O) : Triple PP F_zeitnotref15_copied args H O Q :=
  triple_run mixed (mkOpts_ok okL_ok _ _ _) Tryz.func38 T_zeitnotref15_copied_eq ha ho h

abbrev F_slices_Clone_api_Object_api_Object : FuncId := 39
/- slices.Clone[[]zeitnot/api.Object,zeitnot/api.Object] -/
def T_slices_Clone_api_Object_api_Object (vs : List Value) : Tree :=
  .pure [] (.bin .eql .slice) [(g vs 0), (.slice none 0 0)] fun v0 =>
  .br v0 (
    .ret (.slice none 0 0) []) (
    .newbox fun r0 =>
    .prim (.bi .append #[22, 22] 22) [(.slice (some ⟨r0, 0, none⟩) 0 0), (g vs 0)] [⟨r0, 40, []⟩] [] .one fun l1 _ =>
    .ret (g l1 0) [])
theorem T_slices_Clone_api_Object_api_Object_eq (vs : List Value) : sxFun PP Tryz.f39 (mkOpts okL [(43, [5, 6, 7, 8])] [] []) vs = T_slices_Clone_api_Object_api_Object vs := by kernel_rfl
theorem run_slices_Clone_api_Object_api_Object {args vs : List Value} (ha : entryArgs PP Tryz.f39 args = some vs) (ho : Ones vs) {H : Heap} {O : Own} {Q : Value → Heap → Own → Prop} (h : (T_slices_Clone_api_Object_api_Object vs).den PP Q H O) : Triple PP F_slices_Clone_api_Object_api_Object args H O Q :=
  triple_run mixed (mkOpts_ok okL_ok _ _ _) Tryz.func39 T_slices_Clone_api_Object_api_Object_eq ha ho h

abbrev F_slices_Clone_int_int : FuncId := 40
/- slices.Clone[[]int,int] -/
def T_slices_Clone_int_int (vs : List Value) : Tree :=
  .pure [] (.bin .eql .slice) [(g vs 0), (.slice none 0 0)] fun v0 =>
  .br v0 (
    .ret (.slice none 0 0) []) (
    .newbox fun r0 =>
    .prim (.bi .append #[25, 25] 25) [(.slice (some ⟨r0, 0, none⟩) 0 0), (g vs 0)] [⟨r0, 3, []⟩] [] .one fun l1 _ =>
    .ret (g l1 0) [])
theorem T_slices_Clone_int_int_eq (vs : List Value) : sxFun PP Tryz.f40 (mkOpts okL [(43, [5, 6, 7, 8])] [] []) vs = T_slices_Clone_int_int vs := by kernel_rfl
theorem run_slices_Clone_int_int {args vs : List Value} (ha : entryArgs PP Tryz.f40 args = some vs) (ho : Ones vs) {H : Heap} {O : Own} {Q : Value → Heap → Own → Prop} (h : (T_slices_Clone_int_int vs).den PP Q H O) : Triple PP F_slices_Clone_int_int args H O Q :=
  triple_run mixed (mkOpts_ok okL_ok _ _ _) Tryz.func40 T_slices_Clone_int_int_eq ha ho h

abbrev F_slices_Clone_api_Block_api_Block : FuncId := 41
/- slices.Clone[[]zeitnot/api.Block,zeitnot/api.Block] -/
def T_slices_Clone_api_Block_api_Block (vs : List Value) : Tree :=
  .pure [] (.bin .eql .slice) [(g vs 0), (.slice none 0 0)] fun v0 =>
  .br v0 (
    .ret (.slice none 0 0) []) (
    .newbox fun r0 =>
    .prim (.bi .append #[30, 30] 30) [(.slice (some ⟨r0, 0, none⟩) 0 0), (g vs 0)] [⟨r0, 89, []⟩] [] .one fun l1 _ =>
    .ret (g l1 0) [])
theorem T_slices_Clone_api_Block_api_Block_eq (vs : List Value) : sxFun PP Tryz.f41 (mkOpts okL [(43, [5, 6, 7, 8])] [] []) vs = T_slices_Clone_api_Block_api_Block vs := by kernel_rfl
theorem run_slices_Clone_api_Block_api_Block {args vs : List Value} (ha : entryArgs PP Tryz.f41 args = some vs) (ho : Ones vs) {H : Heap} {O : Own} {Q : Value → Heap → Own → Prop} (h : (T_slices_Clone_api_Block_api_Block vs).den PP Q H O) : Triple PP F_slices_Clone_api_Block_api_Block args H O Q :=
  triple_run mixed (mkOpts_ok okL_ok _ _ _) Tryz.func41 T_slices_Clone_api_Block_api_Block_eq ha ho h

abbrev F_board_items : FuncId := 42
/- zeitnot/board.items -/
def T_board_items (vs : List Value) : Tree :=
  .call false 84 [(g vs 0)] [] [] .one fun l0 _ =>
  .pure [] .len [(g l0 0)] fun v1 =>
  .loop 7 3 [(.int .i64 0)] fun C7 l2 =>
    .pure [] (.bin .lss .int) [(g l2 0), v1] fun v3 =>
    .br v3 (
      .pure [] (.idx 5) [(g l0 0), (g l2 0)] fun v4 =>
      .chk (.ptr [] v4) <|
      .load [] (ptrAdd v4 4) 1 fun l5 =>
      .call false 85 [(g l5 0)] [] [] .one fun l6 _ =>
      .pure [] (.idx 5) [(g l0 0), (g l2 0)] fun v7 =>
      .chk (.ptr [] v7) <|
      .chk (.ptr [] (ptrAdd v7 4)) <|
      .store (ptrAdd v7 4) [(g l6 0)] <|
      .pure [] (.bin .add .int) [(g l2 0), (.int .i64 1)] fun v8 =>
      .cont 7 C7 [v8] [E [(g l0 0)], E [v1]]) (
      .ret (g l0 0) [])
theorem T_board_items_eq (vs : List Value) : sxFun PP Tryz.f42 (mkOpts okL [(43, [5, 6, 7, 8])] [(3, .inv [9] [3, 8] [])] []) vs = T_board_items vs := by kernel_rfl
theorem run_board_items {args vs : List Value} (ha : entryArgs PP Tryz.f42 args = some vs) (ho : Ones vs) {H : Heap} {O : Own} {Q : Value → Heap → Own → Prop} (h : (T_board_items vs).den PP Q H O) : Triple PP F_board_items args H O Q :=
  triple_run mixed (mkOpts_ok okL_ok _ _ _) Tryz.func42 T_board_items_eq ha ho h

abbrev F_board_lists : FuncId := 43
/- zeitnot/board.lists -/
def T_board_lists (vs : List Value) : Tree :=
  .newbox fun r0 =>
  .chk (.ptr [] (g vs 0)) <|
  .chk (.ptr [] (g vs 0)) <|
  .chk (.ptr [] (g vs 0)) <|
  .chk (.ptr [] (g vs 0)) <|
  .chk (.ptr [] (g vs 0)) <|
  .chk (.ptr [] (g vs 0)) <|
  .chk (.ptr [] (g vs 0)) <|
  .chk (.ptr [] (g vs 0)) <|
  .chk (.eqN r0 r0) <|
  .chk (.eqN r0 r0) <|
  .ret (.agg #[(ptrAdd (g vs 0) 5), (ptrAdd (g vs 0) 6), (ptrAdd (g vs 0) 7), (ptrAdd (g vs 0) 8)]) []
theorem T_board_lists_eq (vs : List Value) : sxFun PP Tryz.f43 (mkOpts okL [(43, [5, 6, 7, 8])] [] []) vs = T_board_lists vs := by kernel_rfl
theorem run_board_lists {args vs : List Value} (ha : entryArgs PP Tryz.f43 args = some vs) (ho : Ones vs) {H : Heap} {O : Own} {Q : Value → Heap → Own → Prop} (h : (T_board_lists vs).den PP Q H O) : Triple PP F_board_lists args H O Q :=
  triple_run mixed (mkOpts_ok okL_ok _ _ _) Tryz.func43 T_board_lists_eq ha ho h

abbrev F_board_within : FuncId := 44
/- zeitnot/board.within -/
def T_board_within (vs : List Value) : Tree :=
  .pure [] (.bin .geq .int) [(g vs 0), (g vs 1)] fun v0 =>
  .chk (.eqV v0 v0) <|
  .chk (.eqV v0 v0) <|
  .pure [] (.bin .leq .int) [(g vs 0), (g vs 2)] fun v1 =>
  .chk (.eqV v0 v0) <|
  .pure [] .pick [v0, v1, (.bool false)] fun v2 =>
  .ret v2 []
theorem T_board_within_eq (vs : List Value) : sxFun PP Tryz.f44 (mkOpts okL [(43, [5, 6, 7, 8])] [] []) vs = T_board_within vs := by kernel_rfl
theorem run_board_within {args vs : List Value} (ha : entryArgs PP Tryz.f44 args = some vs) (ho : Ones vs) {H : Heap} {O : Own} {Q : Value → Heap → Own → Prop} (h : (T_board_within vs).den PP Q H O) : Triple PP F_board_within args H O Q :=
  triple_run mixed (mkOpts_ok okL_ok _ _ _) Tryz.func44 T_board_within_eq ha ho h

abbrev F_mana_Valid : FuncId := 45
/- zeitnot/mana.Valid -/
def T_mana_Valid (vs : List Value) : Tree :=
  .newbox fun r0 =>
  .chk (.eqN r0 r0) <|
  .call false 86 [(.agg #[(g vs 0), (g vs 1), (g vs 2), (g vs 3)]), (.int .i64 99)] [] [] .one fun l0 _ =>
  .ret (g l0 0) []
theorem T_mana_Valid_eq (vs : List Value) : sxFun PP Tryz.f45 (mkOpts okL [(43, [5, 6, 7, 8])] [] []) vs = T_mana_Valid vs := by kernel_rfl
theorem run_mana_Valid {args vs : List Value} (ha : entryArgs PP Tryz.f45 args = some vs) (ho : Ones vs) {H : Heap} {O : Own} {Q : Value → Heap → Own → Prop} (h : (T_mana_Valid vs).den PP Q H O) : Triple PP F_mana_Valid args H O Q :=
  triple_run mixed (mkOpts_ok okL_ok _ _ _) Tryz.func45 T_mana_Valid_eq ha ho h

abbrev F_slices_ContainsFunc_api_Item_api_Item : FuncId := 46
/- slices.ContainsFunc[[]zeitnot/api.Item,zeitnot/api.Item] -/
def T_slices_ContainsFunc_api_Item_api_Item (vs : List Value) : Tree :=
  .call false 87 [(g vs 0), (g vs 1)] [] [] .one fun l0 _ =>
  .pure [] (.bin .geq .int) [(g l0 0), (.int .i64 0)] fun v1 =>
  .ret v1 []
theorem T_slices_ContainsFunc_api_Item_api_Item_eq (vs : List Value) : sxFun PP Tryz.f46 (mkOpts okL [(43, [5, 6, 7, 8])] [] []) vs = T_slices_ContainsFunc_api_Item_api_Item vs := by kernel_rfl
theorem run_slices_ContainsFunc_api_Item_api_Item {args vs : List Value} (ha : entryArgs PP Tryz.f46 args = some vs) (ho : Ones vs) {H : Heap} {O : Own} {Q : Value → Heap → Own → Prop} (h : (T_slices_ContainsFunc_api_Item_api_Item vs).den PP Q H O) : Triple PP F_slices_ContainsFunc_api_Item_api_Item args H O Q :=
  triple_run mixed (mkOpts_ok okL_ok _ _ _) Tryz.func46 T_slices_ContainsFunc_api_Item_api_Item_eq ha ho h

abbrev F_board_Valid_1 : FuncId := 47
/- zeitnot/board.Valid$1 -/
def T_board_Valid_1 (vs : List Value) : Tree :=
  .newbox fun r0 =>
  .chk (.eqN r0 r0) <|
  .call false 48 [(.agg #[(g vs 0), (g vs 1), (g vs 2), (g vs 3), (g vs 4)]), (.bool false)] [] [] .one fun l0 _ =>
  .pure [] .not [(g l0 0)] fun v1 =>
  .ret v1 []
theorem T_board_Valid_1_eq (vs : List Value) : sxFun PP Tryz.f47 (mkOpts okL [(43, [5, 6, 7, 8])] [] []) vs = T_board_Valid_1 vs := by kernel_rfl
theorem run_board_Valid_1 {args vs : List Value} (ha : entryArgs PP Tryz.f47 args = some vs) (ho : Ones vs) {H : Heap} {O : Own} {Q : Value → Heap → Own → Prop} (h : (T_board_Valid_1 vs).den PP Q H O) : Triple PP F_board_Valid_1 args H O Q :=
  triple_run mixed (mkOpts_ok okL_ok _ _ _) Tryz.func47 T_board_Valid_1_eq ha ho h

abbrev F_board_fine : FuncId := 48
/- zeitnot/board.fine -/
def T_board_fine (vs : List Value) : Tree :=
  .newbox fun r0 =>
  .chk (.eqN r0 r0) <|
  .call false 44 [(g vs 0), (.int .i64 0), (.int .i64 1)] [] [] .one fun l0 _ =>
  .br (g l0 0) (
    .chk (.eqN r0 r0) <|
    .call false 44 [(g vs 1), (.int .i64 1), (.int .i64 500)] [] [] .one fun l1 _ =>
    .br (g l1 0) (
      .chk (.eqN r0 r0) <|
      .call false 44 [(g vs 2), (.int .i64 0), (.int .i64 399)] [] [] .one fun l2 _ =>
      .br (g l2 0) (
        .chk (.eqN r0 r0) <|
        .call false 44 [(g vs 3), (.int .i64 (-1)), (.int .i64 1)] [] [] .one fun l3 _ =>
        .pure [] .not [(g l3 0)] fun v4 =>
        .chk (.eqN r0 r0) <|
        .chk (.eqV v4 v4) <|
        .chk (.eqV v4 v4) <|
        .pure [] .len [(g vs 4)] fun v5 =>
        .chk (.eqV v4 v4) <|
        .pure [] (.bin .gtr .int) [v5, (.int .i64 4)] fun v6 =>
        .chk (.eqV v4 v4) <|
        .pure [] .pick [v4, (.bool true), v6] fun v7 =>
        .chk (.eqN r0 r0) <|
        .chk (.eqV v7 v7) <|
        .chk (.eqV v7 v7) <|
        .pure [] (.bin .geq .int) [(g vs 3), (.int .i64 0)] fun v8 =>
        .chk (.eqV v7 v7) <|
        .chk (.eqN r0 r0) <|
        .chk (.eqV v8 v8) <|
        .chk (.eqV v7 v7) <|
        .chk (.eqV v8 v8) <|
        .chk (.eqV v7 v7) <|
        .pure [] .len [(g vs 4)] fun v9 =>
        .chk (.eqV v8 v8) <|
        .chk (.eqV v7 v7) <|
        .pure [] (.bin .gtr .int) [v9, (.int .i64 0)] fun v10 =>
        .chk (.eqV v7 v7) <|
        .chk (.eqV v8 v8) <|
        .chk (.eqV v7 v7) <|
        .pure [] .pick [v8, v10, (.bool false)] fun v11 =>
        .chk (.eqV v7 v7) <|
        .pure [] .pick [v7, (.bool true), v11] fun v12 =>
        .chk (.eqV v12 v12) <|
        .chk (.eqN r0 r0) <|
        .chk (.eqV (g vs 5) (g vs 5)) <|
        .chk (.eqV v12 v12) <|
        .chk (.eqV (g vs 5) (g vs 5)) <|
        .chk (.eqV v12 v12) <|
        .pure [] (.bin .lss .int) [(g vs 3), (.int .i64 0)] fun v13 =>
        .chk (.eqV v12 v12) <|
        .chk (.eqV (g vs 5) (g vs 5)) <|
        .chk (.eqV v12 v12) <|
        .pure [] .pick [(g vs 5), v13, (.bool false)] fun v14 =>
        .chk (.eqV v12 v12) <|
        .pure [] .pick [v12, (.bool true), v14] fun v15 =>
        .br v15 (
          .ret (.bool false) []) (
          .chk (.eqN r0 r0) <|
          .call false 88 [(g vs 4), (.func (.func 89) #[] #[])] [] [] .one fun l16 _ =>
          .pure [] .not [(g l16 0)] fun v17 =>
          .ret v17 [])) (
        .ret (.bool false) [])) (
      .ret (.bool false) [])) (
    .ret (.bool false) [])
theorem T_board_fine_eq (vs : List Value) : sxFun PP Tryz.f48 (mkOpts okL [(43, [5, 6, 7, 8])] [] []) vs = T_board_fine vs := by kernel_rfl
theorem run_board_fine {args vs : List Value} (ha : entryArgs PP Tryz.f48 args = some vs) (ho : Ones vs) {H : Heap} {O : Own} {Q : Value → Heap → Own → Prop} (h : (T_board_fine vs).den PP Q H O) : Triple PP F_board_fine args H O Q :=
  triple_run mixed (mkOpts_ok okL_ok _ _ _) Tryz.func48 T_board_fine_eq ha ho h

abbrev F_board_Valid_2 : FuncId := 49
/- zeitnot/board.Valid$2 -/
def T_board_Valid_2 (vs : List Value) : Tree :=
  .newbox fun r0 =>
  .chk (.eqN r0 r0) <|
  .call false 48 [(.agg #[(g vs 0), (g vs 1), (g vs 2), (g vs 3), (g vs 4)]), (.bool true)] [] [] .one fun l0 _ =>
  .pure [] .not [(g l0 0)] fun v1 =>
  .ret v1 []
theorem T_board_Valid_2_eq (vs : List Value) : sxFun PP Tryz.f49 (mkOpts okL [(43, [5, 6, 7, 8])] [] []) vs = T_board_Valid_2 vs := by kernel_rfl
theorem run_board_Valid_2 {args vs : List Value} (ha : entryArgs PP Tryz.f49 args = some vs) (ho : Ones vs) {H : Heap} {O : Own} {Q : Value → Heap → Own → Prop} (h : (T_board_Valid_2 vs).den PP Q H O) : Triple PP F_board_Valid_2 args H O Q :=
  triple_run mixed (mkOpts_ok okL_ok _ _ _) Tryz.func49 T_board_Valid_2_eq ha ho h

abbrev F_board_placed : FuncId := 50
/- zeitnot/board.placed -/
def T_board_placed (vs : List Value) : Tree :=
  .newbox fun r0 =>
  .prim (.makeMap 129 false) [] [] [] .one fun l0 _ =>
  .newbox fun r1 =>
  .chk (.eqN r1 r1) <|
  .call false 43 [(.pointer (some ⟨r0, 1, none⟩))] [] [] (.agg 4) fun l1 _ =>
  .chk (.eqV (g l1 0) (.pointer (some ⟨r0, 6, none⟩))) <|
  .chk (.eqV (g l1 1) (.pointer (some ⟨r0, 7, none⟩))) <|
  .chk (.eqV (g l1 2) (.pointer (some ⟨r0, 8, none⟩))) <|
  .chk (.eqV (g l1 3) (.pointer (some ⟨r0, 9, none⟩))) <|
  .chk (.eqN r0 r0) <|
  .pure [] .len [(g vs 6)] fun v2 =>
  .loop 24 10 [(.int .i64 0), (g l0 0)] fun C24 l3 =>
    .pure [] (.bin .lss .int) [(g l3 0), v2] fun v4 =>
    .br v4 (
      .pure [] (.idx 1) [(g vs 6), (g l3 0)] fun v5 =>
      .load [] v5 1 fun l6 =>
      .call false 91 [(g l6 0), (.int .i64 0), (.pointer (some ⟨r1, 0, none⟩))] [] [⟨r1, 129, [(g l3 1)]⟩] .one fun l7 c7 =>
      .pure [] .not [(g l7 0)] fun v8 =>
      .br v8 (
        .ret (.bool false) []) (
        .pure [] (.bin .add .int) [(g l3 0), (.int .i64 1)] fun v9 =>
        .cont 24 C24 [v9, (g (c7.getD 0 []) 0)] [E [(.pointer (some ⟨r0, 0, none⟩))], E [(.pointer (some ⟨r1, 0, none⟩))], E [(.func (.func 91) #[] #[(.pointer (some ⟨r1, 0, none⟩))])], E [(.int .i64 0)], E [(.int .i64 0)], E [(.pointer (some ⟨r0, 6, none⟩)), (.pointer (some ⟨r0, 7, none⟩)), (.pointer (some ⟨r0, 8, none⟩)), (.pointer (some ⟨r0, 9, none⟩))], E [(.int .i64 0)], E [(g vs 6)], E [v2], E [(.pointer (some ⟨r0, 0, none⟩)), (g vs 0), (g vs 1), (g vs 2), (g vs 3), (g vs 4), (g vs 5), (g vs 6), (g vs 7), (g vs 8), (g vs 9), (g vs 10), (g vs 11), (g vs 12), (g vs 13), (g vs 14), (g vs 15), (g vs 16), (g vs 17), (g vs 18), (g vs 19), (g vs 20), (g vs 21), (g vs 22), (g vs 23), (g vs 24), (g vs 25), (g vs 26), (g vs 27), (g vs 28), (g vs 29), (g vs 30), (g vs 31), (g vs 32), (g vs 33), (g vs 34), (g vs 35), (g vs 36), (g vs 37)], E [(.pointer (some ⟨r1, 0, none⟩)), (.tuple #[])]])) (
      .chk (.eqN r0 r0) <|
      .pure [] .len [(g vs 7)] fun v10 =>
      .loop 36 10 [(.int .i64 0), (g l3 1)] fun C36 l11 =>
        .pure [] (.bin .lss .int) [(g l11 0), v10] fun v12 =>
        .br v12 (
          .pure [] (.idx 1) [(g vs 7), (g l11 0)] fun v13 =>
          .load [] v13 1 fun l14 =>
          .call false 91 [(g l14 0), (.int .i64 0), (.pointer (some ⟨r1, 0, none⟩))] [] [⟨r1, 129, [(g l11 1)]⟩] .one fun l15 c15 =>
          .pure [] .not [(g l15 0)] fun v16 =>
          .br v16 (
            .ret (.bool false) []) (
            .pure [] (.bin .add .int) [(g l11 0), (.int .i64 1)] fun v17 =>
            .cont 36 C36 [v17, (g (c15.getD 0 []) 0)] [E [(.pointer (some ⟨r0, 0, none⟩))], E [(.pointer (some ⟨r1, 0, none⟩))], E [(.func (.func 91) #[] #[(.pointer (some ⟨r1, 0, none⟩))])], E [(.int .i64 0)], E [(.int .i64 0)], E [(.pointer (some ⟨r0, 6, none⟩)), (.pointer (some ⟨r0, 7, none⟩)), (.pointer (some ⟨r0, 8, none⟩)), (.pointer (some ⟨r0, 9, none⟩))], E [(.int .i64 1)], E [(g vs 7)], E [v10], E [(.pointer (some ⟨r0, 0, none⟩)), (g vs 0), (g vs 1), (g vs 2), (g vs 3), (g vs 4), (g vs 5), (g vs 6), (g vs 7), (g vs 8), (g vs 9), (g vs 10), (g vs 11), (g vs 12), (g vs 13), (g vs 14), (g vs 15), (g vs 16), (g vs 17), (g vs 18), (g vs 19), (g vs 20), (g vs 21), (g vs 22), (g vs 23), (g vs 24), (g vs 25), (g vs 26), (g vs 27), (g vs 28), (g vs 29), (g vs 30), (g vs 31), (g vs 32), (g vs 33), (g vs 34), (g vs 35), (g vs 36), (g vs 37)], E [(.pointer (some ⟨r1, 0, none⟩)), (.tuple #[])]])) (
          .chk (.eqN r0 r0) <|
          .pure [] .len [(g vs 8)] fun v18 =>
          .loop 48 10 [(.int .i64 0), (g l11 1)] fun C48 l19 =>
            .pure [] (.bin .lss .int) [(g l19 0), v18] fun v20 =>
            .br v20 (
              .pure [] (.idx 1) [(g vs 8), (g l19 0)] fun v21 =>
              .load [] v21 1 fun l22 =>
              .call false 91 [(g l22 0), (.int .i64 0), (.pointer (some ⟨r1, 0, none⟩))] [] [⟨r1, 129, [(g l19 1)]⟩] .one fun l23 c23 =>
              .pure [] .not [(g l23 0)] fun v24 =>
              .br v24 (
                .ret (.bool false) []) (
                .pure [] (.bin .add .int) [(g l19 0), (.int .i64 1)] fun v25 =>
                .cont 48 C48 [v25, (g (c23.getD 0 []) 0)] [E [(.pointer (some ⟨r0, 0, none⟩))], E [(.pointer (some ⟨r1, 0, none⟩))], E [(.func (.func 91) #[] #[(.pointer (some ⟨r1, 0, none⟩))])], E [(.int .i64 0)], E [(.int .i64 0)], E [(.pointer (some ⟨r0, 6, none⟩)), (.pointer (some ⟨r0, 7, none⟩)), (.pointer (some ⟨r0, 8, none⟩)), (.pointer (some ⟨r0, 9, none⟩))], E [(.int .i64 2)], E [(g vs 8)], E [v18], E [(.pointer (some ⟨r0, 0, none⟩)), (g vs 0), (g vs 1), (g vs 2), (g vs 3), (g vs 4), (g vs 5), (g vs 6), (g vs 7), (g vs 8), (g vs 9), (g vs 10), (g vs 11), (g vs 12), (g vs 13), (g vs 14), (g vs 15), (g vs 16), (g vs 17), (g vs 18), (g vs 19), (g vs 20), (g vs 21), (g vs 22), (g vs 23), (g vs 24), (g vs 25), (g vs 26), (g vs 27), (g vs 28), (g vs 29), (g vs 30), (g vs 31), (g vs 32), (g vs 33), (g vs 34), (g vs 35), (g vs 36), (g vs 37)], E [(.pointer (some ⟨r1, 0, none⟩)), (.tuple #[])]])) (
              .chk (.eqN r0 r0) <|
              .pure [] .len [(g vs 9)] fun v26 =>
              .loop 60 10 [(.int .i64 0), (g l19 1)] fun C60 l27 =>
                .pure [] (.bin .lss .int) [(g l27 0), v26] fun v28 =>
                .br v28 (
                  .pure [] (.idx 1) [(g vs 9), (g l27 0)] fun v29 =>
                  .load [] v29 1 fun l30 =>
                  .call false 91 [(g l30 0), (.int .i64 0), (.pointer (some ⟨r1, 0, none⟩))] [] [⟨r1, 129, [(g l27 1)]⟩] .one fun l31 c31 =>
                  .pure [] .not [(g l31 0)] fun v32 =>
                  .br v32 (
                    .ret (.bool false) []) (
                    .pure [] (.bin .add .int) [(g l27 0), (.int .i64 1)] fun v33 =>
                    .cont 60 C60 [v33, (g (c31.getD 0 []) 0)] [E [(.pointer (some ⟨r0, 0, none⟩))], E [(.pointer (some ⟨r1, 0, none⟩))], E [(.func (.func 91) #[] #[(.pointer (some ⟨r1, 0, none⟩))])], E [(.int .i64 0)], E [(.int .i64 0)], E [(.pointer (some ⟨r0, 6, none⟩)), (.pointer (some ⟨r0, 7, none⟩)), (.pointer (some ⟨r0, 8, none⟩)), (.pointer (some ⟨r0, 9, none⟩))], E [(.int .i64 3)], E [(g vs 9)], E [v26], E [(.pointer (some ⟨r0, 0, none⟩)), (g vs 0), (g vs 1), (g vs 2), (g vs 3), (g vs 4), (g vs 5), (g vs 6), (g vs 7), (g vs 8), (g vs 9), (g vs 10), (g vs 11), (g vs 12), (g vs 13), (g vs 14), (g vs 15), (g vs 16), (g vs 17), (g vs 18), (g vs 19), (g vs 20), (g vs 21), (g vs 22), (g vs 23), (g vs 24), (g vs 25), (g vs 26), (g vs 27), (g vs 28), (g vs 29), (g vs 30), (g vs 31), (g vs 32), (g vs 33), (g vs 34), (g vs 35), (g vs 36), (g vs 37)], E [(.pointer (some ⟨r1, 0, none⟩)), (.tuple #[])]])) (
                  .call false 43 [(.pointer (some ⟨r0, 15, none⟩))] [] [] (.agg 4) fun l34 _ =>
                  .chk (.eqV (g l34 0) (.pointer (some ⟨r0, 20, none⟩))) <|
                  .chk (.eqV (g l34 1) (.pointer (some ⟨r0, 21, none⟩))) <|
                  .chk (.eqV (g l34 2) (.pointer (some ⟨r0, 22, none⟩))) <|
                  .chk (.eqV (g l34 3) (.pointer (some ⟨r0, 23, none⟩))) <|
                  .chk (.eqN r0 r0) <|
                  .pure [] .len [(g vs 20)] fun v35 =>
                  .loop 83 10 [(.int .i64 0), (g l27 1)] fun C83 l36 =>
                    .pure [] (.bin .lss .int) [(g l36 0), v35] fun v37 =>
                    .br v37 (
                      .pure [] (.idx 1) [(g vs 20), (g l36 0)] fun v38 =>
                      .load [] v38 1 fun l39 =>
                      .call false 91 [(g l39 0), (.int .i64 1), (.pointer (some ⟨r1, 0, none⟩))] [] [⟨r1, 129, [(g l36 1)]⟩] .one fun l40 c40 =>
                      .pure [] .not [(g l40 0)] fun v41 =>
                      .br v41 (
                        .ret (.bool false) []) (
                        .pure [] (.bin .add .int) [(g l36 0), (.int .i64 1)] fun v42 =>
                        .cont 83 C83 [v42, (g (c40.getD 0 []) 0)] [E [(.pointer (some ⟨r0, 0, none⟩))], E [(.pointer (some ⟨r1, 0, none⟩))], E [(.func (.func 91) #[] #[(.pointer (some ⟨r1, 0, none⟩))])], E [(.int .i64 1)], E [(.int .i64 1)], E [(.pointer (some ⟨r0, 20, none⟩)), (.pointer (some ⟨r0, 21, none⟩)), (.pointer (some ⟨r0, 22, none⟩)), (.pointer (some ⟨r0, 23, none⟩))], E [(.int .i64 0)], E [(g vs 20)], E [v35], E [(.pointer (some ⟨r0, 0, none⟩)), (g vs 0), (g vs 1), (g vs 2), (g vs 3), (g vs 4), (g vs 5), (g vs 6), (g vs 7), (g vs 8), (g vs 9), (g vs 10), (g vs 11), (g vs 12), (g vs 13), (g vs 14), (g vs 15), (g vs 16), (g vs 17), (g vs 18), (g vs 19), (g vs 20), (g vs 21), (g vs 22), (g vs 23), (g vs 24), (g vs 25), (g vs 26), (g vs 27), (g vs 28), (g vs 29), (g vs 30), (g vs 31), (g vs 32), (g vs 33), (g vs 34), (g vs 35), (g vs 36), (g vs 37)], E [(.pointer (some ⟨r1, 0, none⟩)), (.tuple #[])]])) (
                      .chk (.eqN r0 r0) <|
                      .pure [] .len [(g vs 21)] fun v43 =>
                      .loop 95 10 [(.int .i64 0), (g l36 1)] fun C95 l44 =>
                        .pure [] (.bin .lss .int) [(g l44 0), v43] fun v45 =>
                        .br v45 (
                          .pure [] (.idx 1) [(g vs 21), (g l44 0)] fun v46 =>
                          .load [] v46 1 fun l47 =>
                          .call false 91 [(g l47 0), (.int .i64 1), (.pointer (some ⟨r1, 0, none⟩))] [] [⟨r1, 129, [(g l44 1)]⟩] .one fun l48 c48 =>
                          .pure [] .not [(g l48 0)] fun v49 =>
                          .br v49 (
                            .ret (.bool false) []) (
                            .pure [] (.bin .add .int) [(g l44 0), (.int .i64 1)] fun v50 =>
                            .cont 95 C95 [v50, (g (c48.getD 0 []) 0)] [E [(.pointer (some ⟨r0, 0, none⟩))], E [(.pointer (some ⟨r1, 0, none⟩))], E [(.func (.func 91) #[] #[(.pointer (some ⟨r1, 0, none⟩))])], E [(.int .i64 1)], E [(.int .i64 1)], E [(.pointer (some ⟨r0, 20, none⟩)), (.pointer (some ⟨r0, 21, none⟩)), (.pointer (some ⟨r0, 22, none⟩)), (.pointer (some ⟨r0, 23, none⟩))], E [(.int .i64 1)], E [(g vs 21)], E [v43], E [(.pointer (some ⟨r0, 0, none⟩)), (g vs 0), (g vs 1), (g vs 2), (g vs 3), (g vs 4), (g vs 5), (g vs 6), (g vs 7), (g vs 8), (g vs 9), (g vs 10), (g vs 11), (g vs 12), (g vs 13), (g vs 14), (g vs 15), (g vs 16), (g vs 17), (g vs 18), (g vs 19), (g vs 20), (g vs 21), (g vs 22), (g vs 23), (g vs 24), (g vs 25), (g vs 26), (g vs 27), (g vs 28), (g vs 29), (g vs 30), (g vs 31), (g vs 32), (g vs 33), (g vs 34), (g vs 35), (g vs 36), (g vs 37)], E [(.pointer (some ⟨r1, 0, none⟩)), (.tuple #[])]])) (
                          .chk (.eqN r0 r0) <|
                          .pure [] .len [(g vs 22)] fun v51 =>
                          .loop 107 10 [(.int .i64 0), (g l44 1)] fun C107 l52 =>
                            .pure [] (.bin .lss .int) [(g l52 0), v51] fun v53 =>
                            .br v53 (
                              .pure [] (.idx 1) [(g vs 22), (g l52 0)] fun v54 =>
                              .load [] v54 1 fun l55 =>
                              .call false 91 [(g l55 0), (.int .i64 1), (.pointer (some ⟨r1, 0, none⟩))] [] [⟨r1, 129, [(g l52 1)]⟩] .one fun l56 c56 =>
                              .pure [] .not [(g l56 0)] fun v57 =>
                              .br v57 (
                                .ret (.bool false) []) (
                                .pure [] (.bin .add .int) [(g l52 0), (.int .i64 1)] fun v58 =>
                                .cont 107 C107 [v58, (g (c56.getD 0 []) 0)] [E [(.pointer (some ⟨r0, 0, none⟩))], E [(.pointer (some ⟨r1, 0, none⟩))], E [(.func (.func 91) #[] #[(.pointer (some ⟨r1, 0, none⟩))])], E [(.int .i64 1)], E [(.int .i64 1)], E [(.pointer (some ⟨r0, 20, none⟩)), (.pointer (some ⟨r0, 21, none⟩)), (.pointer (some ⟨r0, 22, none⟩)), (.pointer (some ⟨r0, 23, none⟩))], E [(.int .i64 2)], E [(g vs 22)], E [v51], E [(.pointer (some ⟨r0, 0, none⟩)), (g vs 0), (g vs 1), (g vs 2), (g vs 3), (g vs 4), (g vs 5), (g vs 6), (g vs 7), (g vs 8), (g vs 9), (g vs 10), (g vs 11), (g vs 12), (g vs 13), (g vs 14), (g vs 15), (g vs 16), (g vs 17), (g vs 18), (g vs 19), (g vs 20), (g vs 21), (g vs 22), (g vs 23), (g vs 24), (g vs 25), (g vs 26), (g vs 27), (g vs 28), (g vs 29), (g vs 30), (g vs 31), (g vs 32), (g vs 33), (g vs 34), (g vs 35), (g vs 36), (g vs 37)], E [(.pointer (some ⟨r1, 0, none⟩)), (.tuple #[])]])) (
                              .chk (.eqN r0 r0) <|
                              .pure [] .len [(g vs 23)] fun v59 =>
                              .loop 119 10 [(.int .i64 0), (g l52 1)] fun C119 l60 =>
                                .pure [] (.bin .lss .int) [(g l60 0), v59] fun v61 =>
                                .br v61 (
                                  .pure [] (.idx 1) [(g vs 23), (g l60 0)] fun v62 =>
                                  .load [] v62 1 fun l63 =>
                                  .call false 91 [(g l63 0), (.int .i64 1), (.pointer (some ⟨r1, 0, none⟩))] [] [⟨r1, 129, [(g l60 1)]⟩] .one fun l64 c64 =>
                                  .pure [] .not [(g l64 0)] fun v65 =>
                                  .br v65 (
                                    .ret (.bool false) []) (
                                    .pure [] (.bin .add .int) [(g l60 0), (.int .i64 1)] fun v66 =>
                                    .cont 119 C119 [v66, (g (c64.getD 0 []) 0)] [E [(.pointer (some ⟨r0, 0, none⟩))], E [(.pointer (some ⟨r1, 0, none⟩))], E [(.func (.func 91) #[] #[(.pointer (some ⟨r1, 0, none⟩))])], E [(.int .i64 1)], E [(.int .i64 1)], E [(.pointer (some ⟨r0, 20, none⟩)), (.pointer (some ⟨r0, 21, none⟩)), (.pointer (some ⟨r0, 22, none⟩)), (.pointer (some ⟨r0, 23, none⟩))], E [(.int .i64 3)], E [(g vs 23)], E [v59], E [(.pointer (some ⟨r0, 0, none⟩)), (g vs 0), (g vs 1), (g vs 2), (g vs 3), (g vs 4), (g vs 5), (g vs 6), (g vs 7), (g vs 8), (g vs 9), (g vs 10), (g vs 11), (g vs 12), (g vs 13), (g vs 14), (g vs 15), (g vs 16), (g vs 17), (g vs 18), (g vs 19), (g vs 20), (g vs 21), (g vs 22), (g vs 23), (g vs 24), (g vs 25), (g vs 26), (g vs 27), (g vs 28), (g vs 29), (g vs 30), (g vs 31), (g vs 32), (g vs 33), (g vs 34), (g vs 35), (g vs 36), (g vs 37)], E [(.pointer (some ⟨r1, 0, none⟩)), (.tuple #[])]])) (
                                  .prim (.makeMap 129 false) [] [] [] .one fun l67 _ =>
                                  .chk (.eqN r0 r0) <|
                                  .pure [] .len [(g vs 29)] fun v68 =>
                                  .loop 133 19 [(.int .i64 0), (g l60 1)] fun C133 l69 =>
                                    .pure [] (.bin .lss .int) [(g l69 0), v68] fun v70 =>
                                    .br v70 (
                                      .pure [] (.idx 5) [(g vs 29), (g l69 0)] fun v71 =>
                                      .load [] v71 5 fun l72 =>
                                      .newbox fun r2 =>
                                      .chk (.eqN r2 r2) <|
                                      .chk (.eqN r2 r2) <|
                                      .pure [] (.bin .lss .int) [(g l72 3), (.int .i64 0)] fun v73 =>
                                      .br v73 (
                                        .chk (.eqN r2 r2) <|
                                        .chk (.eqN r2 r2) <|
                                        .call false 91 [(g l72 1), (g l72 0), (.pointer (some ⟨r1, 0, none⟩))] [] [⟨r1, 129, [(g l69 1)]⟩] .one fun l74 c74 =>
                                        .pure [] .not [(g l74 0)] fun v75 =>
                                        .br v75 (
                                          .ret (.bool false) []) (
                                          .chk (.eqN r2 r2) <|
                                          .chk (.eqN r2 r2) <|
                                          .prim (.mapUpdate 129) [(g l67 0), (g l72 1), (g l72 2)] [] [] .one fun l76 _ =>
                                          .pure [] (.bin .add .int) [(g l69 0), (.int .i64 1)] fun v77 =>
                                          .cont 133 C133 [v77, (g (c74.getD 0 []) 0)] [E [(.pointer (some ⟨r0, 0, none⟩))], E [(.pointer (some ⟨r1, 0, none⟩))], E [(.func (.func 91) #[] #[(.pointer (some ⟨r1, 0, none⟩))])], E [(g l67 0)], E [(g vs 29)], E [v68], E [(.pointer (some ⟨r0, 0, none⟩)), (g vs 0), (g vs 1), (g vs 2), (g vs 3), (g vs 4), (g vs 5), (g vs 6), (g vs 7), (g vs 8), (g vs 9), (g vs 10), (g vs 11), (g vs 12), (g vs 13), (g vs 14), (g vs 15), (g vs 16), (g vs 17), (g vs 18), (g vs 19), (g vs 20), (g vs 21), (g vs 22), (g vs 23), (g vs 24), (g vs 25), (g vs 26), (g vs 27), (g vs 28), (g vs 29), (g vs 30), (g vs 31), (g vs 32), (g vs 33), (g vs 34), (g vs 35), (g vs 36), (g vs 37)], E [(.pointer (some ⟨r1, 0, none⟩)), (.tuple #[])]])) (
                                        .pure [] (.bin .add .int) [(g l69 0), (.int .i64 1)] fun v78 =>
                                        .cont 133 C133 [v78, (g l69 1)] [E [(.pointer (some ⟨r0, 0, none⟩))], E [(.pointer (some ⟨r1, 0, none⟩))], E [(.func (.func 91) #[] #[(.pointer (some ⟨r1, 0, none⟩))])], E [(g l67 0)], E [(g vs 29)], E [v68], E [(.pointer (some ⟨r0, 0, none⟩)), (g vs 0), (g vs 1), (g vs 2), (g vs 3), (g vs 4), (g vs 5), (g vs 6), (g vs 7), (g vs 8), (g vs 9), (g vs 10), (g vs 11), (g vs 12), (g vs 13), (g vs 14), (g vs 15), (g vs 16), (g vs 17), (g vs 18), (g vs 19), (g vs 20), (g vs 21), (g vs 22), (g vs 23), (g vs 24), (g vs 25), (g vs 26), (g vs 27), (g vs 28), (g vs 29), (g vs 30), (g vs 31), (g vs 32), (g vs 33), (g vs 34), (g vs 35), (g vs 36), (g vs 37)], E [(.pointer (some ⟨r1, 0, none⟩)), (.tuple #[])]])) (
                                      .chk (.eqN r0 r0) <|
                                      .pure [] .len [(g vs 0)] fun v79 =>
                                      .loop 139 27 [(.int .i64 0)] fun C139 l80 =>
                                        .pure [] (.bin .lss .int) [(g l80 0), v79] fun v81 =>
                                        .br v81 (
                                          .pure [] (.idx 12) [(g vs 0), (g l80 0)] fun v82 =>
                                          .load [] v82 12 fun l83 =>
                                          .newbox fun r3 =>
                                          .chk (.eqN r3 r3) <|
                                          .chk (.eqN r1 r1) <|
                                          .chk (.eqN r3 r3) <|
                                          .prim (.lookup 129 true) [(g l69 1), (g l83 0)] [] [] (.tup [none, none]) fun l84 _ =>
                                          .chk (.eqN r3 r3) <|
                                          .prim (.lookup 129 true) [(g l67 0), (g l83 0)] [] [] (.tup [none, none]) fun l85 _ =>
                                          .chk (.eqN r3 r3) <|
                                          .call false 63 [(.agg #[(g l83 0), (g l83 1), (g l83 2), (g l83 3), (g l83 4), (g l83 5), (g l83 6), (g l83 7), (g l83 8), (g l83 9), (g l83 10), (g l83 11)])] [] [] .one fun l86 _ =>
                                          .pure [] .not [(g l86 0)] fun v87 =>
                                          .chk (.eqV v87 v87) <|
                                          .pure [] (.bin .gtr .int) [(g l80 0), (.int .i64 0)] fun v88 =>
                                          .chk (.eqV v87 v87) <|
                                          .chk (.eqN r0 r0) <|
                                          .chk (.eqV v88 v88) <|
                                          .chk (.eqV v87 v87) <|
                                          .chk (.eqV v88 v88) <|
                                          .chk (.eqV v87 v87) <|
                                          .pure [] (.bin .sub .int) [(g l80 0), (.int .i64 1)] fun v89 =>
                                          .chk (.eqV v88 v88) <|
                                          .chk (.eqV v87 v87) <|
                                          .chk (.eqV v88 v88) <|
                                          .chk (.eqV v87 v87) <|
                                          .pure [(v88, true), (v87, false)] (.idx 12) [(g vs 0), v89] fun v90 =>
                                          .chk (.ptr [(v88, true), (v87, false)] v90) <|
                                          .chk (.eqV v88 v88) <|
                                          .chk (.eqV v87 v87) <|
                                          .chk (.eqV v88 v88) <|
                                          .chk (.eqV v87 v87) <|
                                          .load [(v88, true), (v87, false)] v90 1 fun l91 =>
                                          .chk (.eqN r3 r3) <|
                                          .chk (.eqV v88 v88) <|
                                          .chk (.eqV v87 v87) <|
                                          .chk (.eqV v88 v88) <|
                                          .chk (.eqV v87 v87) <|
                                          .chk (.eqV v88 v88) <|
                                          .chk (.eqV v87 v87) <|
                                          .pure [] (.bin .geq .int) [(g l91 0), (g l83 0)] fun v92 =>
                                          .chk (.eqV v87 v87) <|
                                          .chk (.eqV v88 v88) <|
                                          .chk (.eqV v87 v87) <|
                                          .pure [] .pick [v88, v92, (.bool false)] fun v93 =>
                                          .chk (.eqV v87 v87) <|
                                          .pure [] .pick [v87, (.bool true), v93] fun v94 =>
                                          .chk (.eqV v94 v94) <|
                                          .pure [] .not [(g l84 1)] fun v95 =>
                                          .chk (.eqV v94 v94) <|
                                          .pure [] .pick [v94, (.bool true), v95] fun v96 =>
                                          .chk (.eqN r3 r3) <|
                                          .chk (.eqV v96 v96) <|
                                          .chk (.eqV v96 v96) <|
                                          .chk (.eqV v96 v96) <|
                                          .pure [] (.bin .neq .int) [(g l84 0), (g l83 2)] fun v97 =>
                                          .chk (.eqV v96 v96) <|
                                          .pure [] .pick [v96, (.bool true), v97] fun v98 =>
                                          .chk (.eqV v98 v98) <|
                                          .chk (.eqN r3 r3) <|
                                          .chk (.eqV (g l85 1) (g l85 1)) <|
                                          .chk (.eqV v98 v98) <|
                                          .chk (.eqV (g l85 1) (g l85 1)) <|
                                          .chk (.eqV v98 v98) <|
                                          .chk (.eqV (g l85 1) (g l85 1)) <|
                                          .chk (.eqV v98 v98) <|
                                          .pure [] (.bin .neq .int) [(g l85 0), (g l83 1)] fun v99 =>
                                          .chk (.eqV v98 v98) <|
                                          .chk (.eqV (g l85 1) (g l85 1)) <|
                                          .chk (.eqV v98 v98) <|
                                          .pure [] .pick [(g l85 1), v99, (.bool false)] fun v100 =>
                                          .chk (.eqV v98 v98) <|
                                          .pure [] .pick [v98, (.bool true), v100] fun v101 =>
                                          .br v101 (
                                            .ret (.bool false) []) (
                                            .pure [] (.bin .add .int) [(g l80 0), (.int .i64 1)] fun v102 =>
                                            .cont 139 C139 [v102] [E [(.pointer (some ⟨r0, 0, none⟩))], E [(.pointer (some ⟨r1, 0, none⟩))], E [(g l67 0)], E [(g vs 0)], E [v79], E [(.pointer (some ⟨r0, 0, none⟩)), (g vs 0), (g vs 1), (g vs 2), (g vs 3), (g vs 4), (g vs 5), (g vs 6), (g vs 7), (g vs 8), (g vs 9), (g vs 10), (g vs 11), (g vs 12), (g vs 13), (g vs 14), (g vs 15), (g vs 16), (g vs 17), (g vs 18), (g vs 19), (g vs 20), (g vs 21), (g vs 22), (g vs 23), (g vs 24), (g vs 25), (g vs 26), (g vs 27), (g vs 28), (g vs 29), (g vs 30), (g vs 31), (g vs 32), (g vs 33), (g vs 34), (g vs 35), (g vs 36), (g vs 37)], E [(.pointer (some ⟨r1, 0, none⟩)), (g l69 1)]])) (
                                          .chk (.eqN r1 r1) <|
                                          .prim (.bi .len #[129] 3) [(g l69 1)] [] [] .one fun l103 _ =>
                                          .chk (.eqN r0 r0) <|
                                          .pure [] .len [(g vs 0)] fun v104 =>
                                          .pure [] (.bin .eql .int) [(g l103 0), v104] fun v105 =>
                                          .ret v105 []))))))))))
theorem T_board_placed_eq (vs : List Value) : sxFun PP Tryz.f50 (mkOpts okL [(43, [5, 6, 7, 8])] [(4, .unroll 3), (7, .unroll 5), (10, .inv [35] [1, 3, 4, 5, 21, 27, 28, 33, 34] [(1, []), (3, [0])]), (19, .inv [51] [1, 3, 4, 10, 49, 50] [(1, []), (3, [0])]), (27, .inv [74] [1, 3, 10, 72, 73] [(1, []), (3, [])])] []) vs = T_board_placed vs := by kernel_rfl
theorem run_board_placed {args vs : List Value} (ha : entryArgs PP Tryz.f50 args = some vs) (ho : Ones vs) {H : Heap} {O : Own} {Q : Value → Heap → Own → Prop} (h : (T_board_placed vs).den PP Q H O) : Triple PP F_board_placed args H O Q :=
  triple_run mixed (mkOpts_ok okL_ok _ _ _) Tryz.func50 T_board_placed_eq ha ho h

abbrev F_board_fights : FuncId := 51
/- zeitnot/board.fights -/
def T_board_fights (vs : List Value) : Tree :=
  .newbox fun r0 =>
  .chk (.eqN r0 r0) <|
  .sw (g vs 34) 0 (
    .chk (.eqN r0 r0) <|
    .chk (.eqN r0 r0) <|
    .pure [] (.bin .sub .int) [(.int .i64 1), (g vs 34)] fun v0 =>
    .sw v0 0 (
      .chk (.eqN r0 r0) <|
      .prim (.makeMap 132 false) [] [] [] .one fun l1 _ =>
      .chk (.eqN r0 r0) <|
      .pure [] .len [(g vs 31)] fun v2 =>
      .loop 23 4 [(.int .i64 0)] fun C23 l3 =>
        .pure [] (.bin .lss .int) [(g l3 0), v2] fun v4 =>
        .br v4 (
          .pure [] (.idx 1) [(g vs 31), (g l3 0)] fun v5 =>
          .load [] v5 1 fun l6 =>
          .prim (.lookup 132 false) [(g l1 0), (g l6 0)] [] [] .one fun l7 _ =>
          .br (g l7 0) (
            .ret (.bool false) []) (
            .call false 69 [(g vs 8), (g l6 0)] [] [] .one fun l8 _ =>
            .pure [] .not [(g l8 0)] fun v9 =>
            .br v9 (
              .ret (.bool false) []) (
              .prim (.mapUpdate 132) [(g l1 0), (g l6 0), (.bool true)] [] [] .one fun l10 _ =>
              .pure [] (.bin .add .int) [(g l3 0), (.int .i64 1)] fun v11 =>
              .cont 23 C23 [v11] [E [(.pointer (some ⟨r0, 0, none⟩))], E [(g vs 8)], E [(g vs 8)], E [(g l1 0)], E [(g vs 31)], E [v2], E [(.pointer (some ⟨r0, 0, none⟩)), (g vs 0), (g vs 1), (g vs 2), (g vs 3), (g vs 4), (g vs 5), (g vs 6), (g vs 7), (g vs 8), (g vs 9), (g vs 10), (g vs 11), (g vs 12), (g vs 13), (g vs 14), (g vs 15), (g vs 16), (g vs 17), (g vs 18), (g vs 19), (g vs 20), (g vs 21), (g vs 22), (g vs 23), (g vs 24), (g vs 25), (g vs 26), (g vs 27), (g vs 28), (g vs 29), (g vs 30), (g vs 31), (g vs 32), (g vs 33), (g vs 34), (g vs 35), (g vs 36), (g vs 37)]]))) (
          .chk (.eqN r0 r0) <|
          .pure [] .len [(g vs 32)] fun v12 =>
          .loop 29 11 [(.int .i64 0)] fun C29 l13 =>
            .pure [] (.bin .lss .int) [(g l13 0), v12] fun v14 =>
            .br v14 (
              .pure [] (.idx 2) [(g vs 32), (g l13 0)] fun v15 =>
              .load [] v15 2 fun l16 =>
              .newbox fun r1 =>
              .chk (.eqN r1 r1) <|
              .chk (.eqN r1 r1) <|
              .prim (.lookup 132 false) [(g l1 0), (g l16 1)] [] [] .one fun l17 _ =>
              .pure [] .not [(g l17 0)] fun v18 =>
              .br v18 (
                .ret (.bool false) []) (
                .chk (.eqN r1 r1) <|
                .pure [] .neg [(g l16 0)] fun v19 =>
                .prim (.lookup 132 false) [(g l1 0), v19] [] [] .one fun l20 _ =>
                .br (g l20 0) (
                  .ret (.bool false) []) (
                  .chk (.eqN r0 r0) <|
                  .chk (.eqN r1 r1) <|
                  .call false 69 [(g vs 31), (g l16 1)] [] [] .one fun l21 _ =>
                  .pure [] .not [(g l21 0)] fun v22 =>
                  .br v22 (
                    .ret (.bool false) []) (
                    .chk (.eqN r1 r1) <|
                    .call false 69 [(g vs 8), (g l16 0)] [] [] .one fun l23 _ =>
                    .pure [] .not [(g l23 0)] fun v24 =>
                    .br v24 (
                      .ret (.bool false) []) (
                      .chk (.eqN r1 r1) <|
                      .chk (.eqN r1 r1) <|
                      .pure [] .neg [(g l16 0)] fun v25 =>
                      .prim (.mapUpdate 132) [(g l1 0), (g l16 1), (.bool false)] [] [] .one fun l26 _ =>
                      .prim (.mapUpdate 132) [(g l1 0), v25, (.bool true)] [] [] .one fun l27 _ =>
                      .pure [] (.bin .add .int) [(g l13 0), (.int .i64 1)] fun v28 =>
                      .cont 29 C29 [v28] [E [(.pointer (some ⟨r0, 0, none⟩))], E [(g vs 8)], E [(g l1 0)], E [(g vs 32)], E [v12], E [(.pointer (some ⟨r0, 0, none⟩)), (g vs 0), (g vs 1), (g vs 2), (g vs 3), (g vs 4), (g vs 5), (g vs 6), (g vs 7), (g vs 8), (g vs 9), (g vs 10), (g vs 11), (g vs 12), (g vs 13), (g vs 14), (g vs 15), (g vs 16), (g vs 17), (g vs 18), (g vs 19), (g vs 20), (g vs 21), (g vs 22), (g vs 23), (g vs 24), (g vs 25), (g vs 26), (g vs 27), (g vs 28), (g vs 29), (g vs 30), (g vs 31), (g vs 32), (g vs 33), (g vs 34), (g vs 35), (g vs 36), (g vs 37)]]))))) (
              .ret (.bool true) []))) (
      .sw v0 1 (
        .chk (.eqN r0 r0) <|
        .prim (.makeMap 132 false) [] [] [] .one fun l29 _ =>
        .chk (.eqN r0 r0) <|
        .pure [] .len [(g vs 31)] fun v30 =>
        .loop 23 4 [(.int .i64 0)] fun C23 l31 =>
          .pure [] (.bin .lss .int) [(g l31 0), v30] fun v32 =>
          .br v32 (
            .pure [] (.idx 1) [(g vs 31), (g l31 0)] fun v33 =>
            .load [] v33 1 fun l34 =>
            .prim (.lookup 132 false) [(g l29 0), (g l34 0)] [] [] .one fun l35 _ =>
            .br (g l35 0) (
              .ret (.bool false) []) (
              .call false 69 [(g vs 8), (g l34 0)] [] [] .one fun l36 _ =>
              .pure [] .not [(g l36 0)] fun v37 =>
              .br v37 (
                .ret (.bool false) []) (
                .prim (.mapUpdate 132) [(g l29 0), (g l34 0), (.bool true)] [] [] .one fun l38 _ =>
                .pure [] (.bin .add .int) [(g l31 0), (.int .i64 1)] fun v39 =>
                .cont 23 C23 [v39] [E [(.pointer (some ⟨r0, 0, none⟩))], E [(g vs 8)], E [(g vs 22)], E [(g l29 0)], E [(g vs 31)], E [v30], E [(.pointer (some ⟨r0, 0, none⟩)), (g vs 0), (g vs 1), (g vs 2), (g vs 3), (g vs 4), (g vs 5), (g vs 6), (g vs 7), (g vs 8), (g vs 9), (g vs 10), (g vs 11), (g vs 12), (g vs 13), (g vs 14), (g vs 15), (g vs 16), (g vs 17), (g vs 18), (g vs 19), (g vs 20), (g vs 21), (g vs 22), (g vs 23), (g vs 24), (g vs 25), (g vs 26), (g vs 27), (g vs 28), (g vs 29), (g vs 30), (g vs 31), (g vs 32), (g vs 33), (g vs 34), (g vs 35), (g vs 36), (g vs 37)]]))) (
            .chk (.eqN r0 r0) <|
            .pure [] .len [(g vs 32)] fun v40 =>
            .loop 29 11 [(.int .i64 0)] fun C29 l41 =>
              .pure [] (.bin .lss .int) [(g l41 0), v40] fun v42 =>
              .br v42 (
                .pure [] (.idx 2) [(g vs 32), (g l41 0)] fun v43 =>
                .load [] v43 2 fun l44 =>
                .newbox fun r2 =>
                .chk (.eqN r2 r2) <|
                .chk (.eqN r2 r2) <|
                .prim (.lookup 132 false) [(g l29 0), (g l44 1)] [] [] .one fun l45 _ =>
                .pure [] .not [(g l45 0)] fun v46 =>
                .br v46 (
                  .ret (.bool false) []) (
                  .chk (.eqN r2 r2) <|
                  .pure [] .neg [(g l44 0)] fun v47 =>
                  .prim (.lookup 132 false) [(g l29 0), v47] [] [] .one fun l48 _ =>
                  .br (g l48 0) (
                    .ret (.bool false) []) (
                    .chk (.eqN r0 r0) <|
                    .chk (.eqN r2 r2) <|
                    .call false 69 [(g vs 31), (g l44 1)] [] [] .one fun l49 _ =>
                    .pure [] .not [(g l49 0)] fun v50 =>
                    .br v50 (
                      .ret (.bool false) []) (
                      .chk (.eqN r2 r2) <|
                      .call false 69 [(g vs 22), (g l44 0)] [] [] .one fun l51 _ =>
                      .pure [] .not [(g l51 0)] fun v52 =>
                      .br v52 (
                        .ret (.bool false) []) (
                        .chk (.eqN r2 r2) <|
                        .chk (.eqN r2 r2) <|
                        .pure [] .neg [(g l44 0)] fun v53 =>
                        .prim (.mapUpdate 132) [(g l29 0), (g l44 1), (.bool false)] [] [] .one fun l54 _ =>
                        .prim (.mapUpdate 132) [(g l29 0), v53, (.bool true)] [] [] .one fun l55 _ =>
                        .pure [] (.bin .add .int) [(g l41 0), (.int .i64 1)] fun v56 =>
                        .cont 29 C29 [v56] [E [(.pointer (some ⟨r0, 0, none⟩))], E [(g vs 22)], E [(g l29 0)], E [(g vs 32)], E [v40], E [(.pointer (some ⟨r0, 0, none⟩)), (g vs 0), (g vs 1), (g vs 2), (g vs 3), (g vs 4), (g vs 5), (g vs 6), (g vs 7), (g vs 8), (g vs 9), (g vs 10), (g vs 11), (g vs 12), (g vs 13), (g vs 14), (g vs 15), (g vs 16), (g vs 17), (g vs 18), (g vs 19), (g vs 20), (g vs 21), (g vs 22), (g vs 23), (g vs 24), (g vs 25), (g vs 26), (g vs 27), (g vs 28), (g vs 29), (g vs 30), (g vs 31), (g vs 32), (g vs 33), (g vs 34), (g vs 35), (g vs 36), (g vs 37)]]))))) (
                .ret (.bool true) []))) (
        .stuck 901))) (
    .sw (g vs 34) 1 (
      .chk (.eqN r0 r0) <|
      .chk (.eqN r0 r0) <|
      .pure [] (.bin .sub .int) [(.int .i64 1), (g vs 34)] fun v57 =>
      .sw v57 0 (
        .chk (.eqN r0 r0) <|
        .prim (.makeMap 132 false) [] [] [] .one fun l58 _ =>
        .chk (.eqN r0 r0) <|
        .pure [] .len [(g vs 31)] fun v59 =>
        .loop 23 4 [(.int .i64 0)] fun C23 l60 =>
          .pure [] (.bin .lss .int) [(g l60 0), v59] fun v61 =>
          .br v61 (
            .pure [] (.idx 1) [(g vs 31), (g l60 0)] fun v62 =>
            .load [] v62 1 fun l63 =>
            .prim (.lookup 132 false) [(g l58 0), (g l63 0)] [] [] .one fun l64 _ =>
            .br (g l64 0) (
              .ret (.bool false) []) (
              .call false 69 [(g vs 22), (g l63 0)] [] [] .one fun l65 _ =>
              .pure [] .not [(g l65 0)] fun v66 =>
              .br v66 (
                .ret (.bool false) []) (
                .prim (.mapUpdate 132) [(g l58 0), (g l63 0), (.bool true)] [] [] .one fun l67 _ =>
                .pure [] (.bin .add .int) [(g l60 0), (.int .i64 1)] fun v68 =>
                .cont 23 C23 [v68] [E [(.pointer (some ⟨r0, 0, none⟩))], E [(g vs 22)], E [(g vs 8)], E [(g l58 0)], E [(g vs 31)], E [v59], E [(.pointer (some ⟨r0, 0, none⟩)), (g vs 0), (g vs 1), (g vs 2), (g vs 3), (g vs 4), (g vs 5), (g vs 6), (g vs 7), (g vs 8), (g vs 9), (g vs 10), (g vs 11), (g vs 12), (g vs 13), (g vs 14), (g vs 15), (g vs 16), (g vs 17), (g vs 18), (g vs 19), (g vs 20), (g vs 21), (g vs 22), (g vs 23), (g vs 24), (g vs 25), (g vs 26), (g vs 27), (g vs 28), (g vs 29), (g vs 30), (g vs 31), (g vs 32), (g vs 33), (g vs 34), (g vs 35), (g vs 36), (g vs 37)]]))) (
            .chk (.eqN r0 r0) <|
            .pure [] .len [(g vs 32)] fun v69 =>
            .loop 29 11 [(.int .i64 0)] fun C29 l70 =>
              .pure [] (.bin .lss .int) [(g l70 0), v69] fun v71 =>
              .br v71 (
                .pure [] (.idx 2) [(g vs 32), (g l70 0)] fun v72 =>
                .load [] v72 2 fun l73 =>
                .newbox fun r3 =>
                .chk (.eqN r3 r3) <|
                .chk (.eqN r3 r3) <|
                .prim (.lookup 132 false) [(g l58 0), (g l73 1)] [] [] .one fun l74 _ =>
                .pure [] .not [(g l74 0)] fun v75 =>
                .br v75 (
                  .ret (.bool false) []) (
                  .chk (.eqN r3 r3) <|
                  .pure [] .neg [(g l73 0)] fun v76 =>
                  .prim (.lookup 132 false) [(g l58 0), v76] [] [] .one fun l77 _ =>
                  .br (g l77 0) (
                    .ret (.bool false) []) (
                    .chk (.eqN r0 r0) <|
                    .chk (.eqN r3 r3) <|
                    .call false 69 [(g vs 31), (g l73 1)] [] [] .one fun l78 _ =>
                    .pure [] .not [(g l78 0)] fun v79 =>
                    .br v79 (
                      .ret (.bool false) []) (
                      .chk (.eqN r3 r3) <|
                      .call false 69 [(g vs 8), (g l73 0)] [] [] .one fun l80 _ =>
                      .pure [] .not [(g l80 0)] fun v81 =>
                      .br v81 (
                        .ret (.bool false) []) (
                        .chk (.eqN r3 r3) <|
                        .chk (.eqN r3 r3) <|
                        .pure [] .neg [(g l73 0)] fun v82 =>
                        .prim (.mapUpdate 132) [(g l58 0), (g l73 1), (.bool false)] [] [] .one fun l83 _ =>
                        .prim (.mapUpdate 132) [(g l58 0), v82, (.bool true)] [] [] .one fun l84 _ =>
                        .pure [] (.bin .add .int) [(g l70 0), (.int .i64 1)] fun v85 =>
                        .cont 29 C29 [v85] [E [(.pointer (some ⟨r0, 0, none⟩))], E [(g vs 8)], E [(g l58 0)], E [(g vs 32)], E [v69], E [(.pointer (some ⟨r0, 0, none⟩)), (g vs 0), (g vs 1), (g vs 2), (g vs 3), (g vs 4), (g vs 5), (g vs 6), (g vs 7), (g vs 8), (g vs 9), (g vs 10), (g vs 11), (g vs 12), (g vs 13), (g vs 14), (g vs 15), (g vs 16), (g vs 17), (g vs 18), (g vs 19), (g vs 20), (g vs 21), (g vs 22), (g vs 23), (g vs 24), (g vs 25), (g vs 26), (g vs 27), (g vs 28), (g vs 29), (g vs 30), (g vs 31), (g vs 32), (g vs 33), (g vs 34), (g vs 35), (g vs 36), (g vs 37)]]))))) (
                .ret (.bool true) []))) (
        .sw v57 1 (
          .chk (.eqN r0 r0) <|
          .prim (.makeMap 132 false) [] [] [] .one fun l86 _ =>
          .chk (.eqN r0 r0) <|
          .pure [] .len [(g vs 31)] fun v87 =>
          .loop 23 4 [(.int .i64 0)] fun C23 l88 =>
            .pure [] (.bin .lss .int) [(g l88 0), v87] fun v89 =>
            .br v89 (
              .pure [] (.idx 1) [(g vs 31), (g l88 0)] fun v90 =>
              .load [] v90 1 fun l91 =>
              .prim (.lookup 132 false) [(g l86 0), (g l91 0)] [] [] .one fun l92 _ =>
              .br (g l92 0) (
                .ret (.bool false) []) (
                .call false 69 [(g vs 22), (g l91 0)] [] [] .one fun l93 _ =>
                .pure [] .not [(g l93 0)] fun v94 =>
                .br v94 (
                  .ret (.bool false) []) (
                  .prim (.mapUpdate 132) [(g l86 0), (g l91 0), (.bool true)] [] [] .one fun l95 _ =>
                  .pure [] (.bin .add .int) [(g l88 0), (.int .i64 1)] fun v96 =>
                  .cont 23 C23 [v96] [E [(.pointer (some ⟨r0, 0, none⟩))], E [(g vs 22)], E [(g vs 22)], E [(g l86 0)], E [(g vs 31)], E [v87], E [(.pointer (some ⟨r0, 0, none⟩)), (g vs 0), (g vs 1), (g vs 2), (g vs 3), (g vs 4), (g vs 5), (g vs 6), (g vs 7), (g vs 8), (g vs 9), (g vs 10), (g vs 11), (g vs 12), (g vs 13), (g vs 14), (g vs 15), (g vs 16), (g vs 17), (g vs 18), (g vs 19), (g vs 20), (g vs 21), (g vs 22), (g vs 23), (g vs 24), (g vs 25), (g vs 26), (g vs 27), (g vs 28), (g vs 29), (g vs 30), (g vs 31), (g vs 32), (g vs 33), (g vs 34), (g vs 35), (g vs 36), (g vs 37)]]))) (
              .chk (.eqN r0 r0) <|
              .pure [] .len [(g vs 32)] fun v97 =>
              .loop 29 11 [(.int .i64 0)] fun C29 l98 =>
                .pure [] (.bin .lss .int) [(g l98 0), v97] fun v99 =>
                .br v99 (
                  .pure [] (.idx 2) [(g vs 32), (g l98 0)] fun v100 =>
                  .load [] v100 2 fun l101 =>
                  .newbox fun r4 =>
                  .chk (.eqN r4 r4) <|
                  .chk (.eqN r4 r4) <|
                  .prim (.lookup 132 false) [(g l86 0), (g l101 1)] [] [] .one fun l102 _ =>
                  .pure [] .not [(g l102 0)] fun v103 =>
                  .br v103 (
                    .ret (.bool false) []) (
                    .chk (.eqN r4 r4) <|
                    .pure [] .neg [(g l101 0)] fun v104 =>
                    .prim (.lookup 132 false) [(g l86 0), v104] [] [] .one fun l105 _ =>
                    .br (g l105 0) (
                      .ret (.bool false) []) (
                      .chk (.eqN r0 r0) <|
                      .chk (.eqN r4 r4) <|
                      .call false 69 [(g vs 31), (g l101 1)] [] [] .one fun l106 _ =>
                      .pure [] .not [(g l106 0)] fun v107 =>
                      .br v107 (
                        .ret (.bool false) []) (
                        .chk (.eqN r4 r4) <|
                        .call false 69 [(g vs 22), (g l101 0)] [] [] .one fun l108 _ =>
                        .pure [] .not [(g l108 0)] fun v109 =>
                        .br v109 (
                          .ret (.bool false) []) (
                          .chk (.eqN r4 r4) <|
                          .chk (.eqN r4 r4) <|
                          .pure [] .neg [(g l101 0)] fun v110 =>
                          .prim (.mapUpdate 132) [(g l86 0), (g l101 1), (.bool false)] [] [] .one fun l111 _ =>
                          .prim (.mapUpdate 132) [(g l86 0), v110, (.bool true)] [] [] .one fun l112 _ =>
                          .pure [] (.bin .add .int) [(g l98 0), (.int .i64 1)] fun v113 =>
                          .cont 29 C29 [v113] [E [(.pointer (some ⟨r0, 0, none⟩))], E [(g vs 22)], E [(g l86 0)], E [(g vs 32)], E [v97], E [(.pointer (some ⟨r0, 0, none⟩)), (g vs 0), (g vs 1), (g vs 2), (g vs 3), (g vs 4), (g vs 5), (g vs 6), (g vs 7), (g vs 8), (g vs 9), (g vs 10), (g vs 11), (g vs 12), (g vs 13), (g vs 14), (g vs 15), (g vs 16), (g vs 17), (g vs 18), (g vs 19), (g vs 20), (g vs 21), (g vs 22), (g vs 23), (g vs 24), (g vs 25), (g vs 26), (g vs 27), (g vs 28), (g vs 29), (g vs 30), (g vs 31), (g vs 32), (g vs 33), (g vs 34), (g vs 35), (g vs 36), (g vs 37)]]))))) (
                  .ret (.bool true) []))) (
          .stuck 901))) (
      .stuck 901))
theorem T_board_fights_eq (vs : List Value) : sxFun PP Tryz.f51 (mkOpts okL [(43, [5, 6, 7, 8])] [(4, .inv [27] [1, 3, 4, 5, 25, 26] [(1, [])]), (11, .inv [46] [1, 4, 5, 44, 45] [(1, [])])] []) vs = T_board_fights vs := by kernel_rfl
theorem run_board_fights {args vs : List Value} (ha : entryArgs PP Tryz.f51 args = some vs) (ho : Ones vs) {H : Heap} {O : Own} {Q : Value → Heap → Own → Prop} (h : (T_board_fights vs).den PP Q H O) : Triple PP F_board_fights args H O Q :=
  triple_run mixed (mkOpts_ok okL_ok _ _ _) Tryz.func51 T_board_fights_eq ha ho h

abbrev F_zeitnotref15_Item : FuncId := 52
/- zeitnot/zeitnotref15.Item -/
def T_zeitnotref15_Item (vs : List Value) : Tree :=
  .newbox fun r0 =>
  .chk (.eqN r0 r0) <|
  .pure [] (.bin .lss .int) [(g vs 0), (.int .i64 0)] fun v0 =>
  .chk (.eqN r0 r0) <|
  .chk (.eqV v0 v0) <|
  .chk (.eqV v0 v0) <|
  .pure [] (.bin .gtr .int) [(g vs 0), (.int .i64 1)] fun v1 =>
  .chk (.eqV v0 v0) <|
  .pure [] .pick [v0, (.bool true), v1] fun v2 =>
  .chk (.eqN r0 r0) <|
  .chk (.eqV v2 v2) <|
  .chk (.eqV v2 v2) <|
  .pure [] (.bin .lss .int) [(g vs 1), (.int .i64 1)] fun v3 =>
  .chk (.eqV v2 v2) <|
  .pure [] .pick [v2, (.bool true), v3] fun v4 =>
  .chk (.eqN r0 r0) <|
  .chk (.eqV v4 v4) <|
  .chk (.eqV v4 v4) <|
  .pure [] (.bin .gtr .int) [(g vs 1), (.int .i64 500)] fun v5 =>
  .chk (.eqV v4 v4) <|
  .pure [] .pick [v4, (.bool true), v5] fun v6 =>
  .chk (.eqN r0 r0) <|
  .chk (.eqV v6 v6) <|
  .chk (.eqV v6 v6) <|
  .pure [] (.bin .lss .int) [(g vs 2), (.int .i64 0)] fun v7 =>
  .chk (.eqV v6 v6) <|
  .pure [] .pick [v6, (.bool true), v7] fun v8 =>
  .chk (.eqN r0 r0) <|
  .chk (.eqV v8 v8) <|
  .chk (.eqV v8 v8) <|
  .pure [] (.bin .gtr .int) [(g vs 2), (.int .i64 399)] fun v9 =>
  .chk (.eqV v8 v8) <|
  .pure [] .pick [v8, (.bool true), v9] fun v10 =>
  .chk (.eqN r0 r0) <|
  .chk (.eqV v10 v10) <|
  .chk (.eqV v10 v10) <|
  .pure [] (.bin .lss .int) [(g vs 3), (.int .i64 (-1))] fun v11 =>
  .chk (.eqV v10 v10) <|
  .pure [] .pick [v10, (.bool true), v11] fun v12 =>
  .chk (.eqN r0 r0) <|
  .chk (.eqV v12 v12) <|
  .chk (.eqV v12 v12) <|
  .pure [] (.bin .gtr .int) [(g vs 3), (.int .i64 1)] fun v13 =>
  .chk (.eqV v12 v12) <|
  .pure [] .pick [v12, (.bool true), v13] fun v14 =>
  .chk (.eqN r0 r0) <|
  .chk (.eqV v14 v14) <|
  .chk (.eqV v14 v14) <|
  .pure [] .len [(g vs 4)] fun v15 =>
  .chk (.eqV v14 v14) <|
  .pure [] (.bin .gtr .int) [v15, (.int .i64 4)] fun v16 =>
  .chk (.eqV v14 v14) <|
  .pure [] .pick [v14, (.bool true), v16] fun v17 =>
  .br v17 (
    .ret (.bool false) []) (
    .chk (.eqN r0 r0) <|
    .pure [] (.bin .geq .int) [(g vs 3), (.int .i64 0)] fun v18 =>
    .chk (.eqN r0 r0) <|
    .chk (.eqV v18 v18) <|
    .chk (.eqV v18 v18) <|
    .pure [] .len [(g vs 4)] fun v19 =>
    .chk (.eqV v18 v18) <|
    .pure [] (.bin .gtr .int) [v19, (.int .i64 0)] fun v20 =>
    .chk (.eqV v18 v18) <|
    .pure [] .pick [v18, v20, (.bool false)] fun v21 =>
    .chk (.eqV v21 v21) <|
    .chk (.eqN r0 r0) <|
    .chk (.eqV (g vs 5) (g vs 5)) <|
    .chk (.eqV v21 v21) <|
    .chk (.eqV (g vs 5) (g vs 5)) <|
    .chk (.eqV v21 v21) <|
    .pure [] (.bin .lss .int) [(g vs 3), (.int .i64 0)] fun v22 =>
    .chk (.eqV v21 v21) <|
    .chk (.eqV (g vs 5) (g vs 5)) <|
    .chk (.eqV v21 v21) <|
    .pure [] .pick [(g vs 5), v22, (.bool false)] fun v23 =>
    .chk (.eqV v21 v21) <|
    .pure [] .pick [v21, (.bool true), v23] fun v24 =>
    .br v24 (
      .ret (.bool false) []) (
      .loop 64 6 [(.int .i64 0)] fun C64 l25 =>
        .chk (.eqN r0 r0) <|
        .pure [] .len [(g vs 4)] fun v26 =>
        .pure [] (.bin .lss .int) [(g l25 0), v26] fun v27 =>
        .br v27 (
          .chk (.eqN r0 r0) <|
          .pure [] (.idx 2) [(g vs 4), (g l25 0)] fun v28 =>
          .load [] v28 2 fun l29 =>
          .newbox fun r1 =>
          .chk (.eqN r1 r1) <|
          .chk (.eqN r1 r1) <|
          .pure [] (.bin .lss .int) [(g l29 0), (.int .i64 0)] fun v30 =>
          .chk (.eqN r1 r1) <|
          .chk (.eqV v30 v30) <|
          .chk (.eqV v30 v30) <|
          .pure [] (.bin .gtr .int) [(g l29 0), (.int .i64 500)] fun v31 =>
          .chk (.eqV v30 v30) <|
          .pure [] .pick [v30, (.bool true), v31] fun v32 =>
          .chk (.eqN r1 r1) <|
          .chk (.eqV v32 v32) <|
          .chk (.eqV v32 v32) <|
          .pure [] (.bin .lss .int) [(g l29 1), (.int .i64 0)] fun v33 =>
          .chk (.eqV v32 v32) <|
          .pure [] .pick [v32, (.bool true), v33] fun v34 =>
          .chk (.eqN r1 r1) <|
          .chk (.eqV v34 v34) <|
          .chk (.eqV v34 v34) <|
          .pure [] (.bin .gtr .int) [(g l29 1), (.int .i64 1)] fun v35 =>
          .chk (.eqV v34 v34) <|
          .pure [] .pick [v34, (.bool true), v35] fun v36 =>
          .chk (.eqN r1 r1) <|
          .chk (.eqV v36 v36) <|
          .chk (.eqV v36 v36) <|
          .pure [] (.bin .gtr .int) [(g l29 0), (.int .i64 0)] fun v37 =>
          .chk (.eqV v36 v36) <|
          .chk (.eqN r1 r1) <|
          .chk (.eqV v37 v37) <|
          .chk (.eqV v36 v36) <|
          .chk (.eqV v37 v37) <|
          .chk (.eqV v36 v36) <|
          .pure [] (.bin .neq .int) [(g l29 1), (.int .i64 0)] fun v38 =>
          .chk (.eqV v36 v36) <|
          .chk (.eqV v37 v37) <|
          .chk (.eqV v36 v36) <|
          .pure [] .pick [v37, v38, (.bool false)] fun v39 =>
          .chk (.eqV v36 v36) <|
          .pure [] .pick [v36, (.bool true), v39] fun v40 =>
          .br v40 (
            .ret (.bool false) []) (
            .pure [] (.bin .add .int) [(g l25 0), (.int .i64 1)] fun v41 =>
            .cont 64 C64 [v41] [E [(.pointer (some ⟨r0, 0, none⟩))], E [(.pointer (some ⟨r0, 0, none⟩)), (g vs 0), (g vs 1), (g vs 2), (g vs 3), (g vs 4)]])) (
          .ret (.bool true) [])))
theorem T_zeitnotref15_Item_eq (vs : List Value) : sxFun PP Tryz.f52 (mkOpts okL [(43, [5, 6, 7, 8])] [(6, .inv [5] [2] [(2, [])])] []) vs = T_zeitnotref15_Item vs := by kernel_rfl
theorem run_zeitnotref15_Item {args vs : List Value} (ha : entryArgs PP Tryz.f52 args = some vs) (ho : Ones vs) {H : Heap} {O : Own} {Q : Value → Heap → Own → Prop} (h : (T_zeitnotref15_Item vs).den PP Q H O) : Triple PP F_zeitnotref15_Item args H O Q :=
  triple_run mixed (mkOpts_ok okL_ok _ _ _) Tryz.func52 T_zeitnotref15_Item_eq ha ho h

abbrev F_zeitnotref15_seat : FuncId := 53
/- zeitnot/zeitnotref15.seat -/
def T_zeitnotref15_seat (vs : List Value) : Tree :=
  .newbox fun r0 =>
  .chk (.eqN r0 r0) <|
  .pure [] (.bin .lss .int) [(g vs 1), (.int .i64 0)] fun v0 =>
  .chk (.eqV v0 v0) <|
  .pure [] (.bin .gtr .int) [(g vs 1), (.int .i64 99)] fun v1 =>
  .chk (.eqV v0 v0) <|
  .pure [] .pick [v0, (.bool true), v1] fun v2 =>
  .br v2 (
    .ret (.bool false) []) (
    .pure [] (.bin .lss .int) [(g vs 2), (.int .i64 0)] fun v3 =>
    .chk (.eqV v3 v3) <|
    .pure [] (.bin .gtr .int) [(g vs 2), (.int .i64 99)] fun v4 =>
    .chk (.eqV v3 v3) <|
    .pure [] .pick [v3, (.bool true), v4] fun v5 =>
    .br v5 (
      .ret (.bool false) []) (
      .pure [] (.bin .lss .int) [(g vs 3), (.int .i64 0)] fun v6 =>
      .chk (.eqV v6 v6) <|
      .pure [] (.bin .gtr .int) [(g vs 3), (.int .i64 99)] fun v7 =>
      .chk (.eqV v6 v6) <|
      .pure [] .pick [v6, (.bool true), v7] fun v8 =>
      .br v8 (
        .ret (.bool false) []) (
        .pure [] (.bin .lss .int) [(g vs 4), (.int .i64 0)] fun v9 =>
        .chk (.eqV v9 v9) <|
        .pure [] (.bin .gtr .int) [(g vs 4), (.int .i64 99)] fun v10 =>
        .chk (.eqV v9 v9) <|
        .pure [] .pick [v9, (.bool true), v10] fun v11 =>
        .br v11 (
          .ret (.bool false) []) (
          .chk (.eqN r0 r0) <|
          .pure [] (.bin .geq .int) [(g vs 0), (.int .i64 0)] fun v12 =>
          .chk (.eqN r0 r0) <|
          .chk (.eqV v12 v12) <|
          .chk (.eqV v12 v12) <|
          .pure [] (.bin .leq .int) [(g vs 0), (.int .i64 9999)] fun v13 =>
          .chk (.eqV v12 v12) <|
          .pure [] .pick [v12, v13, (.bool false)] fun v14 =>
          .chk (.eqN r0 r0) <|
          .chk (.eqV v14 v14) <|
          .chk (.eqV v14 v14) <|
          .pure [] (.bin .geq .int) [(g vs 12), (.int .i64 0)] fun v15 =>
          .chk (.eqV v14 v14) <|
          .pure [] .pick [v14, v15, (.bool false)] fun v16 =>
          .chk (.eqN r0 r0) <|
          .chk (.eqV v16 v16) <|
          .chk (.eqV v16 v16) <|
          .pure [] (.bin .leq .int) [(g vs 12), (.int .i64 7)] fun v17 =>
          .chk (.eqV v16 v16) <|
          .pure [] .pick [v16, v17, (.bool false)] fun v18 =>
          .chk (.eqN r0 r0) <|
          .chk (.eqV v18 v18) <|
          .chk (.eqV v18 v18) <|
          .pure [] (.bin .geq .int) [(g vs 13), (.int .i64 0)] fun v19 =>
          .chk (.eqV v18 v18) <|
          .pure [] .pick [v18, v19, (.bool false)] fun v20 =>
          .chk (.eqN r0 r0) <|
          .chk (.eqV v20 v20) <|
          .chk (.eqV v20 v20) <|
          .pure [] (.bin .leq .int) [(g vs 13), (.int .i64 255)] fun v21 =>
          .chk (.eqV v20 v20) <|
          .pure [] .pick [v20, v21, (.bool false)] fun v22 =>
          .ret v22 []))))
theorem T_zeitnotref15_seat_eq (vs : List Value) : sxFun PP Tryz.f53 (mkOpts okL [(43, [5, 6, 7, 8])] [(2, .unroll 5)] []) vs = T_zeitnotref15_seat vs := by kernel_rfl
theorem run_zeitnotref15_seat {args vs : List Value} (ha : entryArgs PP Tryz.f53 args = some vs) (ho : Ones vs) {H : Heap} {O : Own} {Q : Value → Heap → Own → Prop} (h : (T_zeitnotref15_seat vs).den PP Q H O) : Triple PP F_zeitnotref15_seat args H O Q :=
  triple_run mixed (mkOpts_ok okL_ok _ _ _) Tryz.func53 T_zeitnotref15_seat_eq ha ho h

abbrev F_zeitnotref15_found : FuncId := 54
/- zeitnot/zeitnotref15.found -/
def T_zeitnotref15_found (vs : List Value) : Tree :=
  .newbox fun r0 =>
  .chk (.eqN r0 r0) <|
  .call false 35 [(.agg #[(g vs 1), (g vs 2), (g vs 3), (g vs 4), (g vs 5), (g vs 6), (g vs 7), (g vs 8), (g vs 9), (g vs 10), (g vs 11), (g vs 12), (g vs 13), (g vs 14)])] [] [] (.agg 4) fun l0 _ =>
  .pure [] .len [(g l0 0)] fun v1 =>
  .pure [] (.bin .add .int) [(.int .i64 0), v1] fun v2 =>
  .pure [] .len [(g l0 1)] fun v3 =>
  .pure [] (.bin .add .int) [v2, v3] fun v4 =>
  .pure [] .len [(g l0 2)] fun v5 =>
  .pure [] (.bin .add .int) [v4, v5] fun v6 =>
  .pure [] .len [(g l0 3)] fun v7 =>
  .pure [] (.bin .add .int) [v6, v7] fun v8 =>
  .chk (.eqN r0 r0) <|
  .call false 35 [(.agg #[(g vs 15), (g vs 16), (g vs 17), (g vs 18), (g vs 19), (g vs 20), (g vs 21), (g vs 22), (g vs 23), (g vs 24), (g vs 25), (g vs 26), (g vs 27), (g vs 28)])] [] [] (.agg 4) fun l9 _ =>
  .pure [] .len [(g l9 0)] fun v10 =>
  .pure [] (.bin .add .int) [v8, v10] fun v11 =>
  .pure [] .len [(g l9 1)] fun v12 =>
  .pure [] (.bin .add .int) [v11, v12] fun v13 =>
  .pure [] .len [(g l9 2)] fun v14 =>
  .pure [] (.bin .add .int) [v13, v14] fun v15 =>
  .pure [] .len [(g l9 3)] fun v16 =>
  .pure [] (.bin .add .int) [v15, v16] fun v17 =>
  .loop 111 11 [v17, (.int .i64 0)] fun C111 l18 =>
    .chk (.eqN r0 r0) <|
    .pure [] .len [(g vs 29)] fun v19 =>
    .pure [] (.bin .lss .int) [(g l18 1), v19] fun v20 =>
    .br v20 (
      .chk (.eqN r0 r0) <|
      .pure [] (.idx 5) [(g vs 29), (g l18 1)] fun v21 =>
      .load [] v21 5 fun l22 =>
      .newbox fun r1 =>
      .chk (.eqN r1 r1) <|
      .chk (.eqN r1 r1) <|
      .pure [] (.bin .geq .int) [(g l22 3), (.int .i64 0)] fun v23 =>
      .br v23 (
        .pure [] (.bin .add .int) [(g l18 1), (.int .i64 1)] fun v24 =>
        .cont 111 C111 [(g l18 0), v24] [E [(.pointer (some ⟨r0, 0, none⟩))], E [(.pointer (some ⟨r0, 0, none⟩)), (g vs 0), (g vs 1), (g vs 2), (g vs 3), (g vs 4), (g vs 5), (g vs 6), (g vs 7), (g vs 8), (g vs 9), (g vs 10), (g vs 11), (g vs 12), (g vs 13), (g vs 14), (g vs 15), (g vs 16), (g vs 17), (g vs 18), (g vs 19), (g vs 20), (g vs 21), (g vs 22), (g vs 23), (g vs 24), (g vs 25), (g vs 26), (g vs 27), (g vs 28), (g vs 29), (g vs 30), (g vs 31), (g vs 32), (g vs 33), (g vs 34), (g vs 35), (g vs 36), (g vs 37)]]) (
        .pure [] (.bin .add .int) [(g l18 0), (.int .i64 1)] fun v25 =>
        .chk (.eqN r0 r0) <|
        .chk (.eqN r1 r1) <|
        .call false 21 [(.agg #[(g vs 0), (g vs 1), (g vs 2), (g vs 3), (g vs 4), (g vs 5), (g vs 6), (g vs 7), (g vs 8), (g vs 9), (g vs 10), (g vs 11), (g vs 12), (g vs 13), (g vs 14), (g vs 15), (g vs 16), (g vs 17), (g vs 18), (g vs 19), (g vs 20), (g vs 21), (g vs 22), (g vs 23), (g vs 24), (g vs 25), (g vs 26), (g vs 27), (g vs 28), (g vs 29), (g vs 30), (g vs 31), (g vs 32), (g vs 33), (g vs 34), (g vs 35), (g vs 36), (g vs 37)]), (g l22 1)] [] [] .one fun l26 _ =>
        .pure [] (.bin .lss .int) [(g l26 0), (.int .i64 0)] fun v27 =>
        .chk (.eqN r0 r0) <|
        .chk (.eqV v27 v27) <|
        .chk (.eqV v27 v27) <|
        .chk (.eqV v27 v27) <|
        .pure [(v27, false)] (.idx 12) [(g vs 0), (g l26 0)] fun v28 =>
        .chk (.ptr [(v27, false)] v28) <|
        .chk (.eqV v27 v27) <|
        .chk (.eqV v27 v27) <|
        .load [(v27, false)] (ptrAdd v28 1) 1 fun l29 =>
        .chk (.eqN r1 r1) <|
        .chk (.eqV v27 v27) <|
        .chk (.eqV v27 v27) <|
        .chk (.eqV v27 v27) <|
        .pure [] (.bin .neq .int) [(g l29 0), (g l22 2)] fun v30 =>
        .chk (.eqV v27 v27) <|
        .pure [] .pick [v27, (.bool true), v30] fun v31 =>
        .br v31 (
          .ret (.bool false) []) (
          .pure [] (.bin .add .int) [(g l18 1), (.int .i64 1)] fun v32 =>
          .cont 111 C111 [v25, v32] [E [(.pointer (some ⟨r0, 0, none⟩))], E [(.pointer (some ⟨r0, 0, none⟩)), (g vs 0), (g vs 1), (g vs 2), (g vs 3), (g vs 4), (g vs 5), (g vs 6), (g vs 7), (g vs 8), (g vs 9), (g vs 10), (g vs 11), (g vs 12), (g vs 13), (g vs 14), (g vs 15), (g vs 16), (g vs 17), (g vs 18), (g vs 19), (g vs 20), (g vs 21), (g vs 22), (g vs 23), (g vs 24), (g vs 25), (g vs 26), (g vs 27), (g vs 28), (g vs 29), (g vs 30), (g vs 31), (g vs 32), (g vs 33), (g vs 34), (g vs 35), (g vs 36), (g vs 37)]]))) (
      .loop 118 20 [(.int .i64 0)] fun C118 l33 =>
        .chk (.eqN r0 r0) <|
        .pure [] .len [(g vs 0)] fun v34 =>
        .pure [] (.bin .lss .int) [(g l33 0), v34] fun v35 =>
        .br v35 (
          .chk (.eqN r0 r0) <|
          .pure [] (.idx 12) [(g vs 0), (g l33 0)] fun v36 =>
          .load [] v36 12 fun l37 =>
          .newbox fun r2 =>
          .chk (.eqN r2 r2) <|
          .chk (.eqN r2 r2) <|
          .call false 22 [(.agg #[(g l37 0), (g l37 1), (g l37 2), (g l37 3), (g l37 4), (g l37 5), (g l37 6), (g l37 7), (g l37 8), (g l37 9), (g l37 10), (g l37 11)])] [] [] .one fun l38 _ =>
          .pure [] .not [(g l38 0)] fun v39 =>
          .chk (.eqV v39 v39) <|
          .pure [] (.bin .gtr .int) [(g l33 0), (.int .i64 0)] fun v40 =>
          .chk (.eqV v39 v39) <|
          .chk (.eqN r0 r0) <|
          .chk (.eqV v40 v40) <|
          .chk (.eqV v39 v39) <|
          .chk (.eqV v40 v40) <|
          .chk (.eqV v39 v39) <|
          .pure [] (.bin .sub .int) [(g l33 0), (.int .i64 1)] fun v41 =>
          .chk (.eqV v40 v40) <|
          .chk (.eqV v39 v39) <|
          .chk (.eqV v40 v40) <|
          .chk (.eqV v39 v39) <|
          .pure [(v40, true), (v39, false)] (.idx 12) [(g vs 0), v41] fun v42 =>
          .chk (.ptr [(v40, true), (v39, false)] v42) <|
          .chk (.eqV v40 v40) <|
          .chk (.eqV v39 v39) <|
          .chk (.eqV v40 v40) <|
          .chk (.eqV v39 v39) <|
          .load [(v40, true), (v39, false)] v42 1 fun l43 =>
          .chk (.eqN r2 r2) <|
          .chk (.eqV v40 v40) <|
          .chk (.eqV v39 v39) <|
          .chk (.eqV v40 v40) <|
          .chk (.eqV v39 v39) <|
          .chk (.eqV v40 v40) <|
          .chk (.eqV v39 v39) <|
          .pure [] (.bin .geq .int) [(g l43 0), (g l37 0)] fun v44 =>
          .chk (.eqV v39 v39) <|
          .chk (.eqV v40 v40) <|
          .chk (.eqV v39 v39) <|
          .pure [] .pick [v40, v44, (.bool false)] fun v45 =>
          .chk (.eqV v39 v39) <|
          .pure [] .pick [v39, (.bool true), v45] fun v46 =>
          .br v46 (
            .ret (.bool false) []) (
            .chk (.eqN r0 r0) <|
            .chk (.eqN r2 r2) <|
            .chk (.eqN r2 r2) <|
            .call false 92 [(.agg #[(g vs 0), (g vs 1), (g vs 2), (g vs 3), (g vs 4), (g vs 5), (g vs 6), (g vs 7), (g vs 8), (g vs 9), (g vs 10), (g vs 11), (g vs 12), (g vs 13), (g vs 14), (g vs 15), (g vs 16), (g vs 17), (g vs 18), (g vs 19), (g vs 20), (g vs 21), (g vs 22), (g vs 23), (g vs 24), (g vs 25), (g vs 26), (g vs 27), (g vs 28), (g vs 29), (g vs 30), (g vs 31), (g vs 32), (g vs 33), (g vs 34), (g vs 35), (g vs 36), (g vs 37)]), (g l37 2), (g l37 0)] [] [] .one fun l47 _ =>
            .pure [] (.bin .neq .int) [(g l47 0), (.int .i64 1)] fun v48 =>
            .br v48 (
              .ret (.bool false) []) (
              .pure [] (.bin .add .int) [(g l33 0), (.int .i64 1)] fun v49 =>
              .cont 118 C118 [v49] [E [(.pointer (some ⟨r0, 0, none⟩))], E [(g l18 0)], E [(.pointer (some ⟨r0, 0, none⟩)), (g vs 0), (g vs 1), (g vs 2), (g vs 3), (g vs 4), (g vs 5), (g vs 6), (g vs 7), (g vs 8), (g vs 9), (g vs 10), (g vs 11), (g vs 12), (g vs 13), (g vs 14), (g vs 15), (g vs 16), (g vs 17), (g vs 18), (g vs 19), (g vs 20), (g vs 21), (g vs 22), (g vs 23), (g vs 24), (g vs 25), (g vs 26), (g vs 27), (g vs 28), (g vs 29), (g vs 30), (g vs 31), (g vs 32), (g vs 33), (g vs 34), (g vs 35), (g vs 36), (g vs 37)]]))) (
          .chk (.eqN r0 r0) <|
          .pure [] .len [(g vs 0)] fun v50 =>
          .pure [] (.bin .eql .int) [(g l18 0), v50] fun v51 =>
          .ret v51 []))
theorem T_zeitnotref15_found_eq (vs : List Value) : sxFun PP Tryz.f54 (mkOpts okL [(43, [5, 6, 7, 8])] [(3, .unroll 3), (6, .unroll 5), (11, .inv [3, 7] [1] [(1, [])]), (20, .inv [10] [1, 3] [(1, [])])] []) vs = T_zeitnotref15_found vs := by kernel_rfl
theorem run_zeitnotref15_found {args vs : List Value} (ha : entryArgs PP Tryz.f54 args = some vs) (ho : Ones vs) {H : Heap} {O : Own} {Q : Value → Heap → Own → Prop} (h : (T_zeitnotref15_found vs).den PP Q H O) : Triple PP F_zeitnotref15_found args H O Q :=
  triple_run mixed (mkOpts_ok okL_ok _ _ _) Tryz.func54 T_zeitnotref15_found_eq ha ho h

end Go.Proofs.YtjaegdkkiefchaaGreatDoor
