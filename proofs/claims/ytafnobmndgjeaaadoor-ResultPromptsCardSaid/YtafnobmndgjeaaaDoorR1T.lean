/- The trees of the functions of this seat: printed by a tool of mine; each by the kernel's reckoning equal to the evaluator's. -/
import Derived.Test.YtafnobmndgjeaaaDoorSx25
import Derived.Test.YtafnobmndgjeaaaDoorChecked
namespace Go.Proofs.YtafnobmndgjeaaaDoor
open Go Go.Sx
set_option maxRecDepth 100000
theorem mixed : Tryd.prog.follows .mixedOrders = true := by kernel_rfl
def okL : List Nat := [2, 3, 4, 5, 6, 7, 8, 9, 10, 11, 12, 13, 14, 15, 16, 17, 18, 19, 20, 21, 22, 23, 24, 25, 26, 27, 28, 29, 30, 31, 32, 33, 34, 35, 36, 37, 38, 39, 40, 41, 42, 43, 44, 45, 46, 47, 48, 49, 51, 52, 54, 79]
theorem okL_ok : okL.all (okFnB Tryd.prog) = true := by kernel_rfl

/- zeitnot/zeitnotlaw26.ResultJudges -/
def t3 (vs : List Value) : Tree :=
  .newbox fun r0 =>
  .newbox fun r1 =>
  .chk (.eqN r0 r0) <|
  .call false 6 [(.agg #[(g vs 0), (g vs 1), (g vs 2), (g vs 3), (g vs 4), (g vs 5), (g vs 6), (g vs 7), (g vs 8), (g vs 9), (g vs 10), (g vs 11), (g vs 12), (g vs 13), (g vs 14), (g vs 15), (g vs 16), (g vs 17), (g vs 18), (g vs 19), (g vs 20), (g vs 21), (g vs 22), (g vs 23), (g vs 24), (g vs 25), (g vs 26), (g vs 27), (g vs 28), (g vs 29), (g vs 30), (g vs 31), (g vs 32), (g vs 33), (g vs 34), (g vs 35), (g vs 36), (g vs 37)])] [] [] .one fun l0 _ =>
  .pure [] .not [(g l0 0)] fun v1 =>
  .br v1 (
    .call false 7 [] [] [] .one fun l2 _ =>
    .ret (g l2 0) []) (
    .chk (.eqN r0 r0) <|
    .chk (.eqN r1 r1) <|
    .chk (.eqN r0 r0) <|
    .chk (.eqN r1 r1) <|
    .call true 8 [(.agg #[(g vs 0), (g vs 1), (g vs 2), (g vs 3), (g vs 4), (g vs 5), (g vs 6), (g vs 7), (g vs 8), (g vs 9), (g vs 10), (g vs 11), (g vs 12), (g vs 13), (g vs 14), (g vs 15), (g vs 16), (g vs 17), (g vs 18), (g vs 19), (g vs 20), (g vs 21), (g vs 22), (g vs 23), (g vs 24), (g vs 25), (g vs 26), (g vs 27), (g vs 28), (g vs 29), (g vs 30), (g vs 31), (g vs 32), (g vs 33), (g vs 34), (g vs 35), (g vs 36), (g vs 37)]), (.agg #[(g vs 38), (g vs 39)]), (g vs 40)] [] [] (.agg 2) fun l3 _ =>
    .call true 9 [(.agg #[(g vs 0), (g vs 1), (g vs 2), (g vs 3), (g vs 4), (g vs 5), (g vs 6), (g vs 7), (g vs 8), (g vs 9), (g vs 10), (g vs 11), (g vs 12), (g vs 13), (g vs 14), (g vs 15), (g vs 16), (g vs 17), (g vs 18), (g vs 19), (g vs 20), (g vs 21), (g vs 22), (g vs 23), (g vs 24), (g vs 25), (g vs 26), (g vs 27), (g vs 28), (g vs 29), (g vs 30), (g vs 31), (g vs 32), (g vs 33), (g vs 34), (g vs 35), (g vs 36), (g vs 37)]), (.agg #[(g vs 38), (g vs 39)]), (g vs 40)] [] [] (.agg 2) fun l4 _ =>
    .raw [] (.eqv .eql 40 false) [(.agg #[(g l3 0), (g l3 1)]), (.agg #[(g l4 0), (g l4 1)])] fun v5 =>
    .br v5 (
      .call true 7 [] [] [] .one fun l6 _ =>
      .ret (g l6 0) []) (
      .ret (.bool false) []))
theorem t3_eq (vs : List Value) : sxFun Tryd.prog Tryd.f3 (mkOpts okL [(44, [5, 6, 7, 8])] [] []) vs = t3 vs := by kernel_rfl
theorem run3 {args vs : List Value} (ha : entryArgs Tryd.prog Tryd.f3 args = some vs) (ho : Ones vs) {H : Heap} {O : Own} {Q : Value → Heap → Own → Prop} (h : (t3 vs).den Tryd.prog Q H O) : Triple Tryd.prog 3 args H O Q :=
  triple_run mixed (mkOpts_ok okL_ok _ _ _) Tryd.func3 t3_eq ha ho h

/- zeitnot/zeitnotlaw26.ResultPrompts -/
def t4 (vs : List Value) : Tree :=
  .newbox fun r0 =>
  .chk (.eqN r0 r0) <|
  .call false 10 [(.agg #[(g vs 0), (g vs 1), (g vs 2), (g vs 3), (g vs 4), (g vs 5)])] [] [] (.tup [none, none]) fun l0 _ =>
  .chk (.eqN r0 r0) <|
  .call false 11 [(.agg #[(g vs 0), (g vs 1), (g vs 2), (g vs 3), (g vs 4), (g vs 5)])] [] [] .one fun l1 _ =>
  .pure [] .not [(g l1 0)] fun v2 =>
  .br v2 (
    .pure [] (.bin .eql .int) [(g l0 0), (.int .i64 0)] fun v3 =>
    .chk (.eqV v3 v3) <|
    .pure [] (.bin .eql .int) [(g l0 1), (.int .i64 2)] fun v4 =>
    .chk (.eqV v3 v3) <|
    .pure [] .pick [v3, v4, (.bool false)] fun v5 =>
    .br v5 (
      .call false 7 [] [] [] .one fun l6 _ =>
      .ret (g l6 0) []) (
      .ret (.bool false) [])) (
    .chk (.eqN r0 r0) <|
    .call false 12 [(.agg #[(g vs 0), (g vs 1), (g vs 2), (g vs 3), (g vs 4), (g vs 5)])] [] [] .one fun l7 _ =>
    .pure [] (.bin .eql .int) [(g l0 0), (g l7 0)] fun v8 =>
    .chk (.eqV v8 v8) <|
    .pure [] (.bin .eql .int) [(g l0 1), (.int .i64 0)] fun v9 =>
    .chk (.eqV v8 v8) <|
    .pure [] .pick [v8, v9, (.bool false)] fun v10 =>
    .br v10 (
      .call false 7 [] [] [] .one fun l11 _ =>
      .ret (g l11 0) []) (
      .ret (.bool false) []))
theorem t4_eq (vs : List Value) : sxFun Tryd.prog Tryd.f4 (mkOpts okL [(44, [5, 6, 7, 8])] [] []) vs = t4 vs := by kernel_rfl
theorem run4 {args vs : List Value} (ha : entryArgs Tryd.prog Tryd.f4 args = some vs) (ho : Ones vs) {H : Heap} {O : Own} {Q : Value → Heap → Own → Prop} (h : (t4 vs).den Tryd.prog Q H O) : Triple Tryd.prog 4 args H O Q :=
  triple_run mixed (mkOpts_ok okL_ok _ _ _) Tryd.func4 t4_eq ha ho h

/- zeitnot/zeitnotlaw26.ResultTexts -/
def t5 (vs : List Value) : Tree :=
  .newbox fun r0 =>
  .pure [] .slen [(g vs 2)] fun v0 =>
  .pure [] (.bin .gtr .int) [v0, (.int .i64 60)] fun v1 =>
  .br v1 (
    .call false 7 [] [] [] .one fun l2 _ =>
    .ret (g l2 0) []) (
    .chk (.eqN r0 r0) <|
    .call false 13 [(.agg #[(g vs 0), (g vs 1)])] [] [] (.tup [none, none]) fun l3 _ =>
    .chk (.eqN r0 r0) <|
    .call false 14 [(.agg #[(g vs 0), (g vs 1)])] [] [] (.tup [none, none]) fun l4 _ =>
    .pure [] (.bin .neq .str) [(g l3 0), (g l4 0)] fun v5 =>
    .chk (.eqV v5 v5) <|
    .pure [] (.bin .eql .int) [(g l3 1), (.int .i64 0)] fun v6 =>
    .chk (.eqV v5 v5) <|
    .chk (.eqV v5 v5) <|
    .pure [] (.bin .neq .bool) [v6, (g l4 1)] fun v7 =>
    .chk (.eqV v5 v5) <|
    .pure [] .pick [v5, (.bool true), v7] fun v8 =>
    .chk (.eqV v8 v8) <|
    .pure [] .not [(g l4 1)] fun v9 =>
    .chk (.eqV v8 v8) <|
    .chk (.eqV v9 v9) <|
    .chk (.eqV v8 v8) <|
    .pure [] (.bin .neq .int) [(g l3 1), (.int .i64 2)] fun v10 =>
    .chk (.eqV v8 v8) <|
    .chk (.eqV v9 v9) <|
    .chk (.eqV v8 v8) <|
    .pure [] .pick [v9, v10, (.bool false)] fun v11 =>
    .chk (.eqV v8 v8) <|
    .pure [] .pick [v8, (.bool true), v11] fun v12 =>
    .br v12 (
      .ret (.bool false) []) (
      .call false 15 [(g vs 2)] [] [] (.tup [some 2, none]) fun l13 _ =>
      .newbox fun r1 =>
      .chk (.eqN r1 r1) <|
      .br (g l13 2) (
        .chk (.eqN r1 r1) <|
        .call false 16 [(g vs 2), (.agg #[(g l13 0), (g l13 1)]), (.int .i64 0)] [] [] .one fun l14 _ =>
        .pure [] .not [(g l14 0)] fun v15 =>
        .br v15 (
          .ret (.bool false) []) (
          .pure [] .not [(g l13 2)] fun v16 =>
          .br v16 (
            .call false 16 [(g vs 2), (.agg #[(.int .i64 0), (.int .i64 0)]), (.int .i64 6)] [] [] .one fun l17 _ =>
            .pure [] .not [(g l17 0)] fun v18 =>
            .br v18 (
              .ret (.bool false) []) (
              .newbox fun r2 =>
              .newbox fun r3 =>
              .chk (.eqN r3 r3) <|
              .call false 17 [(.pointer none)] [] [] (.tup [some 2, none]) fun l19 _ =>
              .newbox fun r4 =>
              .chk (.eqN r4 r4) <|
              .chk (.eqN r4 r4) <|
              .raw [] (.eqv .neq 40 false) [(.agg #[(g l19 0), (g l19 1)]), (.agg #[(.int .i64 0), (.int .i64 0)])] fun v20 =>
              .chk (.eqV v20 v20) <|
              .pure [] (.bin .neq .int) [(g l19 2), (.int .i64 1)] fun v21 =>
              .chk (.eqV v20 v20) <|
              .pure [] .pick [v20, (.bool true), v21] fun v22 =>
              .br v22 (
                .ret (.bool false) []) (
                .chk (.eqN r3 r3) <|
                .call false 17 [(.pointer (some ⟨r2, 0, none⟩))] [] [⟨r2, 61, [(.int .i64 0), (.int .i64 0), (.int .i64 0), (.int .i64 0), (.int .i64 0), (.int .i64 0), (.slice none 0 0), (.slice none 0 0), (.int .i64 0), (.int .i64 0), (.int .i64 0), (.int .i64 0), (.int .i64 0), (.slice none 0 0), (.slice none 0 0), (.slice none 0 0), (.slice none 0 0), (.bool false), (.bool false), (.bool false), (.int .i64 0), (.int .i64 0), (.int .i64 0), (.int .i64 0), (.int .i64 0), (.int .i64 0), (.int .i64 0), (.slice none 0 0), (.slice none 0 0), (.slice none 0 0), (.slice none 0 0), (.bool false), (.bool false), (.bool false), (.int .i64 0), (.int .i64 0), (.slice none 0 0), (.slice none 0 0), (.slice none 0 0), (.slice none 0 0), (.int .i64 0), (.int .i64 0), (.int .i64 0), (.int .i64 0), (.int .i64 0), (.pointer none), (.bool false), (.bool false), (.int .i64 0)]⟩] (.tup [some 2, none]) fun l23 c23 =>
                .newbox fun r5 =>
                .chk (.eqN r5 r5) <|
                .chk (.eqN r5 r5) <|
                .raw [] (.eqv .neq 40 false) [(.agg #[(g l23 0), (g l23 1)]), (.agg #[(.int .i64 0), (.int .i64 0)])] fun v24 =>
                .chk (.eqV v24 v24) <|
                .pure [] (.bin .neq .int) [(g l23 2), (.int .i64 1)] fun v25 =>
                .chk (.eqV v24 v24) <|
                .pure [] .pick [v24, (.bool true), v25] fun v26 =>
                .br v26 (
                  .ret (.bool false) []) (
                  .call false 7 [] [] [] .one fun l27 _ =>
                  .ret (g l27 0) [])))) (
            .newbox fun r6 =>
            .newbox fun r7 =>
            .chk (.eqN r7 r7) <|
            .call false 17 [(.pointer none)] [] [] (.tup [some 2, none]) fun l28 _ =>
            .newbox fun r8 =>
            .chk (.eqN r8 r8) <|
            .chk (.eqN r8 r8) <|
            .raw [] (.eqv .neq 40 false) [(.agg #[(g l28 0), (g l28 1)]), (.agg #[(.int .i64 0), (.int .i64 0)])] fun v29 =>
            .chk (.eqV v29 v29) <|
            .pure [] (.bin .neq .int) [(g l28 2), (.int .i64 1)] fun v30 =>
            .chk (.eqV v29 v29) <|
            .pure [] .pick [v29, (.bool true), v30] fun v31 =>
            .br v31 (
              .ret (.bool false) []) (
              .chk (.eqN r7 r7) <|
              .call false 17 [(.pointer (some ⟨r6, 0, none⟩))] [] [⟨r6, 61, [(.int .i64 0), (.int .i64 0), (.int .i64 0), (.int .i64 0), (.int .i64 0), (.int .i64 0), (.slice none 0 0), (.slice none 0 0), (.int .i64 0), (.int .i64 0), (.int .i64 0), (.int .i64 0), (.int .i64 0), (.slice none 0 0), (.slice none 0 0), (.slice none 0 0), (.slice none 0 0), (.bool false), (.bool false), (.bool false), (.int .i64 0), (.int .i64 0), (.int .i64 0), (.int .i64 0), (.int .i64 0), (.int .i64 0), (.int .i64 0), (.slice none 0 0), (.slice none 0 0), (.slice none 0 0), (.slice none 0 0), (.bool false), (.bool false), (.bool false), (.int .i64 0), (.int .i64 0), (.slice none 0 0), (.slice none 0 0), (.slice none 0 0), (.slice none 0 0), (.int .i64 0), (.int .i64 0), (.int .i64 0), (.int .i64 0), (.int .i64 0), (.pointer none), (.bool false), (.bool false), (.int .i64 0)]⟩] (.tup [some 2, none]) fun l32 c32 =>
              .newbox fun r9 =>
              .chk (.eqN r9 r9) <|
              .chk (.eqN r9 r9) <|
              .raw [] (.eqv .neq 40 false) [(.agg #[(g l32 0), (g l32 1)]), (.agg #[(.int .i64 0), (.int .i64 0)])] fun v33 =>
              .chk (.eqV v33 v33) <|
              .pure [] (.bin .neq .int) [(g l32 2), (.int .i64 1)] fun v34 =>
              .chk (.eqV v33 v33) <|
              .pure [] .pick [v33, (.bool true), v34] fun v35 =>
              .br v35 (
                .ret (.bool false) []) (
                .call false 7 [] [] [] .one fun l36 _ =>
                .ret (g l36 0) []))))) (
        .pure [] .not [(g l13 2)] fun v37 =>
        .br v37 (
          .call false 16 [(g vs 2), (.agg #[(.int .i64 0), (.int .i64 0)]), (.int .i64 6)] [] [] .one fun l38 _ =>
          .pure [] .not [(g l38 0)] fun v39 =>
          .br v39 (
            .ret (.bool false) []) (
            .newbox fun r10 =>
            .newbox fun r11 =>
            .chk (.eqN r11 r11) <|
            .call false 17 [(.pointer none)] [] [] (.tup [some 2, none]) fun l40 _ =>
            .newbox fun r12 =>
            .chk (.eqN r12 r12) <|
            .chk (.eqN r12 r12) <|
            .raw [] (.eqv .neq 40 false) [(.agg #[(g l40 0), (g l40 1)]), (.agg #[(.int .i64 0), (.int .i64 0)])] fun v41 =>
            .chk (.eqV v41 v41) <|
            .pure [] (.bin .neq .int) [(g l40 2), (.int .i64 1)] fun v42 =>
            .chk (.eqV v41 v41) <|
            .pure [] .pick [v41, (.bool true), v42] fun v43 =>
            .br v43 (
              .ret (.bool false) []) (
              .chk (.eqN r11 r11) <|
              .call false 17 [(.pointer (some ⟨r10, 0, none⟩))] [] [⟨r10, 61, [(.int .i64 0), (.int .i64 0), (.int .i64 0), (.int .i64 0), (.int .i64 0), (.int .i64 0), (.slice none 0 0), (.slice none 0 0), (.int .i64 0), (.int .i64 0), (.int .i64 0), (.int .i64 0), (.int .i64 0), (.slice none 0 0), (.slice none 0 0), (.slice none 0 0), (.slice none 0 0), (.bool false), (.bool false), (.bool false), (.int .i64 0), (.int .i64 0), (.int .i64 0), (.int .i64 0), (.int .i64 0), (.int .i64 0), (.int .i64 0), (.slice none 0 0), (.slice none 0 0), (.slice none 0 0), (.slice none 0 0), (.bool false), (.bool false), (.bool false), (.int .i64 0), (.int .i64 0), (.slice none 0 0), (.slice none 0 0), (.slice none 0 0), (.slice none 0 0), (.int .i64 0), (.int .i64 0), (.int .i64 0), (.int .i64 0), (.int .i64 0), (.pointer none), (.bool false), (.bool false), (.int .i64 0)]⟩] (.tup [some 2, none]) fun l44 c44 =>
              .newbox fun r13 =>
              .chk (.eqN r13 r13) <|
              .chk (.eqN r13 r13) <|
              .raw [] (.eqv .neq 40 false) [(.agg #[(g l44 0), (g l44 1)]), (.agg #[(.int .i64 0), (.int .i64 0)])] fun v45 =>
              .chk (.eqV v45 v45) <|
              .pure [] (.bin .neq .int) [(g l44 2), (.int .i64 1)] fun v46 =>
              .chk (.eqV v45 v45) <|
              .pure [] .pick [v45, (.bool true), v46] fun v47 =>
              .br v47 (
                .ret (.bool false) []) (
                .call false 7 [] [] [] .one fun l48 _ =>
                .ret (g l48 0) [])))) (
          .newbox fun r14 =>
          .newbox fun r15 =>
          .chk (.eqN r15 r15) <|
          .call false 17 [(.pointer none)] [] [] (.tup [some 2, none]) fun l49 _ =>
          .newbox fun r16 =>
          .chk (.eqN r16 r16) <|
          .chk (.eqN r16 r16) <|
          .raw [] (.eqv .neq 40 false) [(.agg #[(g l49 0), (g l49 1)]), (.agg #[(.int .i64 0), (.int .i64 0)])] fun v50 =>
          .chk (.eqV v50 v50) <|
          .pure [] (.bin .neq .int) [(g l49 2), (.int .i64 1)] fun v51 =>
          .chk (.eqV v50 v50) <|
          .pure [] .pick [v50, (.bool true), v51] fun v52 =>
          .br v52 (
            .ret (.bool false) []) (
            .chk (.eqN r15 r15) <|
            .call false 17 [(.pointer (some ⟨r14, 0, none⟩))] [] [⟨r14, 61, [(.int .i64 0), (.int .i64 0), (.int .i64 0), (.int .i64 0), (.int .i64 0), (.int .i64 0), (.slice none 0 0), (.slice none 0 0), (.int .i64 0), (.int .i64 0), (.int .i64 0), (.int .i64 0), (.int .i64 0), (.slice none 0 0), (.slice none 0 0), (.slice none 0 0), (.slice none 0 0), (.bool false), (.bool false), (.bool false), (.int .i64 0), (.int .i64 0), (.int .i64 0), (.int .i64 0), (.int .i64 0), (.int .i64 0), (.int .i64 0), (.slice none 0 0), (.slice none 0 0), (.slice none 0 0), (.slice none 0 0), (.bool false), (.bool false), (.bool false), (.int .i64 0), (.int .i64 0), (.slice none 0 0), (.slice none 0 0), (.slice none 0 0), (.slice none 0 0), (.int .i64 0), (.int .i64 0), (.int .i64 0), (.int .i64 0), (.int .i64 0), (.pointer none), (.bool false), (.bool false), (.int .i64 0)]⟩] (.tup [some 2, none]) fun l53 c53 =>
            .newbox fun r17 =>
            .chk (.eqN r17 r17) <|
            .chk (.eqN r17 r17) <|
            .raw [] (.eqv .neq 40 false) [(.agg #[(g l53 0), (g l53 1)]), (.agg #[(.int .i64 0), (.int .i64 0)])] fun v54 =>
            .chk (.eqV v54 v54) <|
            .pure [] (.bin .neq .int) [(g l53 2), (.int .i64 1)] fun v55 =>
            .chk (.eqV v54 v54) <|
            .pure [] .pick [v54, (.bool true), v55] fun v56 =>
            .br v56 (
              .ret (.bool false) []) (
              .call false 7 [] [] [] .one fun l57 _ =>
              .ret (g l57 0) []))))))
theorem t5_eq (vs : List Value) : sxFun Tryd.prog Tryd.f5 (mkOpts okL [(44, [5, 6, 7, 8])] [(11, .unroll 3)] []) vs = t5 vs := by kernel_rfl
theorem run5 {args vs : List Value} (ha : entryArgs Tryd.prog Tryd.f5 args = some vs) (ho : Ones vs) {H : Heap} {O : Own} {Q : Value → Heap → Own → Prop} (h : (t5 vs).den Tryd.prog Q H O) : Triple Tryd.prog 5 args H O Q :=
  triple_run mixed (mkOpts_ok okL_ok _ _ _) Tryd.func5 t5_eq ha ho h

/- zeitnot/zeitnotlaw26.small -/
def t6 (vs : List Value) : Tree :=
  .newbox fun r0 =>
  .chk (.eqN r0 r0) <|
  .call false 18 [(.agg #[(g vs 1), (g vs 2), (g vs 3), (g vs 4), (g vs 5), (g vs 6), (g vs 7), (g vs 8), (g vs 9), (g vs 10), (g vs 11), (g vs 12), (g vs 13), (g vs 14)])] [] [] (.agg 4) fun l0 _ =>
  .pure [] .len [(g l0 0)] fun v1 =>
  .pure [] (.bin .gtr .int) [v1, (.int .i64 40)] fun v2 =>
  .br v2 (
    .ret (.bool false) []) (
    .pure [] .len [(g l0 1)] fun v3 =>
    .pure [] (.bin .gtr .int) [v3, (.int .i64 40)] fun v4 =>
    .br v4 (
      .ret (.bool false) []) (
      .pure [] .len [(g l0 2)] fun v5 =>
      .pure [] (.bin .gtr .int) [v5, (.int .i64 40)] fun v6 =>
      .br v6 (
        .ret (.bool false) []) (
        .pure [] .len [(g l0 3)] fun v7 =>
        .pure [] (.bin .gtr .int) [v7, (.int .i64 40)] fun v8 =>
        .br v8 (
          .ret (.bool false) []) (
          .chk (.eqN r0 r0) <|
          .call false 18 [(.agg #[(g vs 15), (g vs 16), (g vs 17), (g vs 18), (g vs 19), (g vs 20), (g vs 21), (g vs 22), (g vs 23), (g vs 24), (g vs 25), (g vs 26), (g vs 27), (g vs 28)])] [] [] (.agg 4) fun l9 _ =>
          .pure [] .len [(g l9 0)] fun v10 =>
          .pure [] (.bin .gtr .int) [v10, (.int .i64 40)] fun v11 =>
          .br v11 (
            .ret (.bool false) []) (
            .pure [] .len [(g l9 1)] fun v12 =>
            .pure [] (.bin .gtr .int) [v12, (.int .i64 40)] fun v13 =>
            .br v13 (
              .ret (.bool false) []) (
              .pure [] .len [(g l9 2)] fun v14 =>
              .pure [] (.bin .gtr .int) [v14, (.int .i64 40)] fun v15 =>
              .br v15 (
                .ret (.bool false) []) (
                .pure [] .len [(g l9 3)] fun v16 =>
                .pure [] (.bin .gtr .int) [v16, (.int .i64 40)] fun v17 =>
                .br v17 (
                  .ret (.bool false) []) (
                  .chk (.eqN r0 r0) <|
                  .chk (.eqN r0 r0) <|
                  .newbox fun r1 =>
                  .chk (.eqN r1 r1) <|
                  .pure [] .len [(g vs 29)] fun v18 =>
                  .pure [] (.bin .gtr .int) [v18, (.int .i64 20)] fun v19 =>
                  .br v19 (
                    .ret (.bool false) []) (
                    .loop 108 16 [(.int .i64 0)] fun C108 l20 =>
                      .pure [] .len [(g vs 29)] fun v21 =>
                      .pure [] (.bin .lss .int) [(g l20 0), v21] fun v22 =>
                      .br v22 (
                        .pure [] (.idx 5) [(g vs 29), (g l20 0)] fun v23 =>
                        .chk (.ptr [] v23) <|
                        .load [] (ptrAdd v23 4) 1 fun l24 =>
                        .pure [] .len [(g l24 0)] fun v25 =>
                        .pure [] (.bin .gtr .int) [v25, (.int .i64 6)] fun v26 =>
                        .br v26 (
                          .ret (.bool false) []) (
                          .pure [] (.bin .add .int) [(g l20 0), (.int .i64 1)] fun v27 =>
                          .cont 108 C108 [v27] [([(.pointer (some ⟨r0, 0, none⟩))], [(.pointer (some ⟨r0, 0, none⟩))]), ([(g vs 29)], [(g vs 29)]), ([(.slice (some ⟨r1, 0, none⟩) 2 2)], [(.slice (some ⟨r1, 0, none⟩) 2 2)]), ([(.int .i64 2)], [(.int .i64 2)]), ([(.int .i64 0)], [(.int .i64 0)]), ([(.pointer (some ⟨r0, 0, none⟩)), (g vs 0), (g vs 1), (g vs 2), (g vs 3), (g vs 4), (g vs 5), (g vs 6), (g vs 7), (g vs 8), (g vs 9), (g vs 10), (g vs 11), (g vs 12), (g vs 13), (g vs 14), (g vs 15), (g vs 16), (g vs 17), (g vs 18), (g vs 19), (g vs 20), (g vs 21), (g vs 22), (g vs 23), (g vs 24), (g vs 25), (g vs 26), (g vs 27), (g vs 28), (g vs 29), (g vs 30), (g vs 31), (g vs 32), (g vs 33), (g vs 34), (g vs 35), (g vs 36), (g vs 37)], [(.pointer (some ⟨r0, 0, none⟩)), (g vs 0), (g vs 1), (g vs 2), (g vs 3), (g vs 4), (g vs 5), (g vs 6), (g vs 7), (g vs 8), (g vs 9), (g vs 10), (g vs 11), (g vs 12), (g vs 13), (g vs 14), (g vs 15), (g vs 16), (g vs 17), (g vs 18), (g vs 19), (g vs 20), (g vs 21), (g vs 22), (g vs 23), (g vs 24), (g vs 25), (g vs 26), (g vs 27), (g vs 28), (g vs 29), (g vs 30), (g vs 31), (g vs 32), (g vs 33), (g vs 34), (g vs 35), (g vs 36), (g vs 37)]), ([(.pointer (some ⟨r1, 0, none⟩)), (g vs 29), (g vs 30)], [(.pointer (some ⟨r1, 0, none⟩)), (g vs 29), (g vs 30)])])) (
                        .chk (.eqN r1 r1) <|
                        .pure [] .len [(g vs 30)] fun v28 =>
                        .pure [] (.bin .gtr .int) [v28, (.int .i64 20)] fun v29 =>
                        .br v29 (
                          .ret (.bool false) []) (
                          .loop 123 16 [(.int .i64 0)] fun C123 l30 =>
                            .pure [] .len [(g vs 30)] fun v31 =>
                            .pure [] (.bin .lss .int) [(g l30 0), v31] fun v32 =>
                            .br v32 (
                              .pure [] (.idx 5) [(g vs 30), (g l30 0)] fun v33 =>
                              .chk (.ptr [] v33) <|
                              .load [] (ptrAdd v33 4) 1 fun l34 =>
                              .pure [] .len [(g l34 0)] fun v35 =>
                              .pure [] (.bin .gtr .int) [v35, (.int .i64 6)] fun v36 =>
                              .br v36 (
                                .ret (.bool false) []) (
                                .pure [] (.bin .add .int) [(g l30 0), (.int .i64 1)] fun v37 =>
                                .cont 123 C123 [v37] [([(.pointer (some ⟨r0, 0, none⟩))], [(.pointer (some ⟨r0, 0, none⟩))]), ([(g vs 30)], [(g vs 30)]), ([(.slice (some ⟨r1, 0, none⟩) 2 2)], [(.slice (some ⟨r1, 0, none⟩) 2 2)]), ([(.int .i64 2)], [(.int .i64 2)]), ([(.int .i64 1)], [(.int .i64 1)]), ([(.pointer (some ⟨r0, 0, none⟩)), (g vs 0), (g vs 1), (g vs 2), (g vs 3), (g vs 4), (g vs 5), (g vs 6), (g vs 7), (g vs 8), (g vs 9), (g vs 10), (g vs 11), (g vs 12), (g vs 13), (g vs 14), (g vs 15), (g vs 16), (g vs 17), (g vs 18), (g vs 19), (g vs 20), (g vs 21), (g vs 22), (g vs 23), (g vs 24), (g vs 25), (g vs 26), (g vs 27), (g vs 28), (g vs 29), (g vs 30), (g vs 31), (g vs 32), (g vs 33), (g vs 34), (g vs 35), (g vs 36), (g vs 37)], [(.pointer (some ⟨r0, 0, none⟩)), (g vs 0), (g vs 1), (g vs 2), (g vs 3), (g vs 4), (g vs 5), (g vs 6), (g vs 7), (g vs 8), (g vs 9), (g vs 10), (g vs 11), (g vs 12), (g vs 13), (g vs 14), (g vs 15), (g vs 16), (g vs 17), (g vs 18), (g vs 19), (g vs 20), (g vs 21), (g vs 22), (g vs 23), (g vs 24), (g vs 25), (g vs 26), (g vs 27), (g vs 28), (g vs 29), (g vs 30), (g vs 31), (g vs 32), (g vs 33), (g vs 34), (g vs 35), (g vs 36), (g vs 37)]), ([(.pointer (some ⟨r1, 0, none⟩)), (g vs 29), (g vs 30)], [(.pointer (some ⟨r1, 0, none⟩)), (g vs 29), (g vs 30)])])) (
                              .chk (.eqN r0 r0) <|
                              .pure [] .len [(g vs 0)] fun v38 =>
                              .pure [] (.bin .leq .int) [v38, (.int .i64 30)] fun v39 =>
                              .chk (.eqN r0 r0) <|
                              .chk (.eqV v39 v39) <|
                              .chk (.eqV v39 v39) <|
                              .pure [] .len [(g vs 31)] fun v40 =>
                              .chk (.eqV v39 v39) <|
                              .pure [] (.bin .leq .int) [v40, (.int .i64 30)] fun v41 =>
                              .chk (.eqV v39 v39) <|
                              .pure [] .pick [v39, v41, (.bool false)] fun v42 =>
                              .chk (.eqN r0 r0) <|
                              .chk (.eqV v42 v42) <|
                              .chk (.eqV v42 v42) <|
                              .pure [] .len [(g vs 32)] fun v43 =>
                              .chk (.eqV v42 v42) <|
                              .pure [] (.bin .leq .int) [v43, (.int .i64 30)] fun v44 =>
                              .chk (.eqV v42 v42) <|
                              .pure [] .pick [v42, v44, (.bool false)] fun v45 =>
                              .ret v45 []))))))))))))
theorem t6_eq (vs : List Value) : sxFun Tryd.prog Tryd.f6 (mkOpts okL [(44, [5, 6, 7, 8])] [(2, .unroll 3), (5, .unroll 5), (11, .unroll 3), (16, .inv [8] [1, 7, 29, 30, 31] [(1, []), (29, [])])] []) vs = t6 vs := by kernel_rfl
theorem run6 {args vs : List Value} (ha : entryArgs Tryd.prog Tryd.f6 args = some vs) (ho : Ones vs) {H : Heap} {O : Own} {Q : Value → Heap → Own → Prop} (h : (t6 vs).den Tryd.prog Q H O) : Triple Tryd.prog 6 args H O Q :=
  triple_run mixed (mkOpts_ok okL_ok _ _ _) Tryd.func6 t6_eq ha ho h

/- zeitnot/zeitnotlaw26.known -/
def t7 (vs : List Value) : Tree :=
  .newbox fun r0 =>
  .chk (.eqN r0 r0) <|
  .chk (.eqN r0 r0) <|
  .newbox fun r1 =>
  .newbox fun r2 =>
  .chk (.eqN r0 r0) <|
  .chk (.eqN r0 r0) <|
  .chk (.eqN r0 r0) <|
  .call false 19 [(.agg #[(.slice none 0 0), (.int .i64 5), (.int .i64 0), (.int .i64 0), (.int .i64 0), (.int .i64 0), (.slice (some ⟨r1, 0, none⟩) 1 1), (.slice none 0 0), (.slice none 0 0), (.slice none 0 0), (.bool false), (.bool false), (.bool false), (.int .i64 0), (.int .i64 0), (.int .i64 4), (.int .i64 0), (.int .i64 0), (.int .i64 0), (.int .i64 0), (.slice (some ⟨r2, 0, none⟩) 2 2), (.slice none 0 0), (.slice none 0 0), (.slice none 0 0), (.bool false), (.bool false), (.bool false), (.int .i64 0), (.int .i64 0), (.slice none 0 0), (.slice none 0 0), (.slice none 0 0), (.slice none 0 0), (.int .i64 0), (.int .i64 0), (.int .i64 0), (.int .i64 0), (.int .i64 0)]), (.bool false), (.bool false), (.int .i64 5), (.int .i64 1)] [⟨r1, 3, [(.int .i64 1)]⟩, ⟨r2, 3, [(.int .i64 2), (.int .i64 3)]⟩] [] .one fun l0 _ =>
  .pure [] .not [(g l0 0)] fun v1 =>
  .br v1 (
    .ret (.bool false) []) (
    .chk (.eqN r0 r0) <|
    .call false 19 [(.agg #[(.slice none 0 0), (.int .i64 5), (.int .i64 0), (.int .i64 0), (.int .i64 0), (.int .i64 0), (.slice (some ⟨r1, 0, none⟩) 1 1), (.slice none 0 0), (.slice none 0 0), (.slice none 0 0), (.bool false), (.bool false), (.bool false), (.int .i64 0), (.int .i64 0), (.int .i64 4), (.int .i64 0), (.int .i64 0), (.int .i64 0), (.int .i64 0), (.slice (some ⟨r2, 0, none⟩) 2 2), (.slice none 0 0), (.slice none 0 0), (.slice none 0 0), (.bool false), (.bool false), (.bool false), (.int .i64 0), (.int .i64 0), (.slice none 0 0), (.slice none 0 0), (.slice none 0 0), (.slice none 0 0), (.int .i64 0), (.int .i64 0), (.int .i64 0), (.int .i64 0), (.int .i64 0)]), (.bool true), (.bool false), (.int .i64 1), (.int .i64 2)] [] [] .one fun l2 _ =>
    .pure [] .not [(g l2 0)] fun v3 =>
    .br v3 (
      .ret (.bool false) []) (
      .chk (.eqN r0 r0) <|
      .call false 19 [(.agg #[(.slice none 0 0), (.int .i64 5), (.int .i64 0), (.int .i64 0), (.int .i64 0), (.int .i64 0), (.slice (some ⟨r1, 0, none⟩) 1 1), (.slice none 0 0), (.slice none 0 0), (.slice none 0 0), (.bool false), (.bool false), (.bool false), (.int .i64 0), (.int .i64 0), (.int .i64 4), (.int .i64 0), (.int .i64 0), (.int .i64 0), (.int .i64 0), (.slice (some ⟨r2, 0, none⟩) 2 2), (.slice none 0 0), (.slice none 0 0), (.slice none 0 0), (.bool false), (.bool false), (.bool false), (.int .i64 0), (.int .i64 0), (.slice none 0 0), (.slice none 0 0), (.slice none 0 0), (.slice none 0 0), (.int .i64 0), (.int .i64 0), (.int .i64 0), (.int .i64 0), (.int .i64 0)]), (.bool true), (.bool true), (.int .i64 2), (.int .i64 3)] [] [] .one fun l4 _ =>
      .pure [] .not [(g l4 0)] fun v5 =>
      .br v5 (
        .ret (.bool false) []) (
        .chk (.eqN r0 r0) <|
        .call false 19 [(.agg #[(.slice none 0 0), (.int .i64 5), (.int .i64 0), (.int .i64 0), (.int .i64 0), (.int .i64 0), (.slice (some ⟨r1, 0, none⟩) 1 1), (.slice none 0 0), (.slice none 0 0), (.slice none 0 0), (.bool false), (.bool false), (.bool false), (.int .i64 0), (.int .i64 0), (.int .i64 4), (.int .i64 0), (.int .i64 0), (.int .i64 0), (.int .i64 0), (.slice (some ⟨r2, 0, none⟩) 2 2), (.slice none 0 0), (.slice none 0 0), (.slice none 0 0), (.bool false), (.bool false), (.bool false), (.int .i64 0), (.int .i64 0), (.slice none 0 0), (.slice none 0 0), (.slice none 0 0), (.slice none 0 0), (.int .i64 0), (.int .i64 0), (.int .i64 0), (.int .i64 0), (.int .i64 0)]), (.bool false), (.bool false), (.int .i64 0), (.int .i64 0)] [] [] .one fun l6 _ =>
        .pure [] .not [(g l6 0)] fun v7 =>
        .br v7 (
          .ret (.bool false) []) (
          .chk (.eqN r0 r0) <|
          .chk (.eqN r0 r0) <|
          .call false 19 [(.agg #[(.slice none 0 0), (.int .i64 4), (.int .i64 0), (.int .i64 0), (.int .i64 0), (.int .i64 0), (.slice (some ⟨r1, 0, none⟩) 1 1), (.slice none 0 0), (.slice none 0 0), (.slice none 0 0), (.bool false), (.bool false), (.bool false), (.int .i64 0), (.int .i64 0), (.int .i64 4), (.int .i64 0), (.int .i64 0), (.int .i64 0), (.int .i64 0), (.slice (some ⟨r2, 0, none⟩) 2 2), (.slice none 0 0), (.slice none 0 0), (.slice none 0 0), (.bool false), (.bool false), (.bool false), (.int .i64 0), (.int .i64 0), (.slice none 0 0), (.slice none 0 0), (.slice none 0 0), (.slice none 0 0), (.int .i64 0), (.int .i64 0), (.int .i64 0), (.int .i64 0), (.int .i64 0)]), (.bool false), (.bool false), (.int .i64 5), (.int .i64 2)] [] [] .one fun l8 _ =>
          .pure [] .not [(g l8 0)] fun v9 =>
          .br v9 (
            .ret (.bool false) []) (
            .newbox fun r3 =>
            .chk (.eqN r0 r0) <|
            .call false 10 [(.agg #[(.int .i64 20), (.int .i64 1), (.int .i64 10), (.int .i64 40), (.int .i64 5), (.int .i64 3)])] [] [] (.tup [none, none]) fun l10 _ =>
            .chk (.eqN r0 r0) <|
            .call false 19 [(.agg #[(.slice none 0 0), (.int .i64 4), (.int .i64 0), (.int .i64 0), (.int .i64 0), (.int .i64 0), (.slice (some ⟨r1, 0, none⟩) 1 1), (.slice none 0 0), (.slice none 0 0), (.slice none 0 0), (.bool false), (.bool false), (.bool false), (.int .i64 0), (.int .i64 0), (.int .i64 4), (.int .i64 0), (.int .i64 0), (.int .i64 0), (.int .i64 0), (.slice (some ⟨r3, 0, none⟩) 1 1), (.slice none 0 0), (.slice none 0 0), (.slice none 0 0), (.bool false), (.bool false), (.bool false), (.int .i64 0), (.int .i64 0), (.slice none 0 0), (.slice none 0 0), (.slice none 0 0), (.slice none 0 0), (.int .i64 0), (.int .i64 0), (.int .i64 0), (.int .i64 0), (.int .i64 0)]), (.bool false), (.bool false), (.int .i64 5), (.int .i64 3)] [⟨r3, 3, [(.int .i64 2)]⟩] [] .one fun l11 _ =>
            .pure [] .not [(g l11 0)] fun v12 =>
            .chk (.eqV v12 v12) <|
            .pure [] (.bin .neq .int) [(g l10 0), (.int .i64 1402)] fun v13 =>
            .chk (.eqV v12 v12) <|
            .pure [] .pick [v12, (.bool true), v13] fun v14 =>
            .chk (.eqV v14 v14) <|
            .pure [] (.bin .neq .int) [(g l10 1), (.int .i64 0)] fun v15 =>
            .chk (.eqV v14 v14) <|
            .pure [] .pick [v14, (.bool true), v15] fun v16 =>
            .br v16 (
              .ret (.bool false) []) (
              .call false 13 [(.agg #[(.int .i64 1), (.int .i64 0)])] [] [] (.tup [none, none]) fun l17 _ =>
              .call false 16 [(.string ⟨#[100, 114, 97, 119, 32, 116, 105, 109, 101]⟩), (.agg #[(.int .i64 3), (.int .i64 4)]), (.int .i64 0)] [] [] .one fun l18 _ =>
              .br (g l18 0) (
                .call false 16 [(.string ⟨#[110, 111, 110, 101]⟩), (.agg #[(.int .i64 0), (.int .i64 0)]), (.int .i64 0)] [] [] .one fun l19 _ =>
                .br (g l19 0) (
                  .call false 16 [(.string ⟨#[110, 111, 110, 101, 32, 99, 97, 112]⟩), (.agg #[(.int .i64 0), (.int .i64 0)]), (.int .i64 6)] [] [] .one fun l20 _ =>
                  .br (g l20 0) (
                    .call false 16 [(.string ⟨#[122, 101, 114, 111]⟩), (.agg #[(.int .i64 0), (.int .i64 0)]), (.int .i64 6)] [] [] .one fun l21 _ =>
                    .chk (.eqV (g l21 0) (g l21 0)) <|
                    .pure [] (.bin .eql .str) [(g l17 0), (.string ⟨#[]⟩)] fun v22 =>
                    .chk (.eqV (g l21 0) (g l21 0)) <|
                    .pure [] .pick [(g l21 0), v22, (.bool false)] fun v23 =>
                    .chk (.eqV v23 v23) <|
                    .pure [] (.bin .eql .int) [(g l17 1), (.int .i64 2)] fun v24 =>
                    .chk (.eqV v23 v23) <|
                    .pure [] .pick [v23, v24, (.bool false)] fun v25 =>
                    .ret v25 []) (
                    .ret (.bool false) [])) (
                  .ret (.bool false) [])) (
                .ret (.bool false) [])))))))
theorem t7_eq (vs : List Value) : sxFun Tryd.prog Tryd.f7 (mkOpts okL [(44, [5, 6, 7, 8])] [] []) vs = t7 vs := by kernel_rfl
theorem run7 {args vs : List Value} (ha : entryArgs Tryd.prog Tryd.f7 args = some vs) (ho : Ones vs) {H : Heap} {O : Own} {Q : Value → Heap → Own → Prop} (h : (t7 vs).den Tryd.prog Q H O) : Triple Tryd.prog 7 args H O Q :=
  triple_run mixed (mkOpts_ok okL_ok _ _ _) Tryd.func7 t7_eq ha ho h

/- zeitnot/result.Judge -/
def t8 (vs : List Value) : Tree :=
  .newbox fun r0 =>
  .newbox fun r1 =>
  .newbox fun r2 =>
  .pure [] (.bin .lss .int) [(g vs 40), (.int .i64 1)] fun v0 =>
  .chk (.eqV v0 v0) <|
  .pure [] (.bin .gtr .int) [(g vs 40), (.int .i64 5)] fun v1 =>
  .chk (.eqV v0 v0) <|
  .pure [] .pick [v0, (.bool true), v1] fun v2 =>
  .br v2 (
    .chk (.eqN r2 r2) <|
    .chk (.eqN r2 r2) <|
    .ret (.agg #[(.int .i64 0), (.int .i64 0)]) []) (
    .chk (.eqN r0 r0) <|
    .chk (.eqN r0 r0) <|
    .newbox fun r3 =>
    .newbox fun r4 =>
    .chk (.eqN r3 r3) <|
    .chk (.eqN r4 r4) <|
    .chk (.eqN r3 r3) <|
    .chk (.eqN r4 r4) <|
    .chk (.eqN r3 r3) <|
    .pure [] .len [(g vs 6)] fun v3 =>
    .chk (.eqN r4 r4) <|
    .pure [] .len [(g vs 20)] fun v4 =>
    .call true 21 [(g vs 1), (g vs 15)] [] [] .one fun l5 _ =>
    .call true 21 [v3, v4] [] [] .one fun l6 _ =>
    .newbox fun r5 =>
    .call true 20 [(.slice (some ⟨r5, 0, none⟩) 2 2)] [⟨r5, 3, [(g l5 0), (g l6 0)]⟩] [] .one fun l7 _ =>
    .chk (.eqN r1 r1) <|
    .chk (.eqN r1 r1) <|
    .chk (.eqV (g vs 38) (g vs 38)) <|
    .chk (.eqV (g vs 38) (g vs 38)) <|
    .pure [] .pick [(g vs 38), (.bool true), (g vs 39)] fun v8 =>
    .br v8 (
      .chk (.eqN r1 r1) <|
      .br (g vs 38) (
        .chk (.eqN r1 r1) <|
        .br (g vs 39) (
          .chk (.eqN r2 r2) <|
          .chk (.eqN r2 r2) <|
          .ret (.agg #[(.int .i64 3), (g vs 40)]) []) (
          .chk (.eqN r2 r2) <|
          .chk (.eqN r2 r2) <|
          .ret (.agg #[(.int .i64 2), (g vs 40)]) [])) (
        .chk (.eqN r1 r1) <|
        .br (g vs 39) (
          .chk (.eqN r2 r2) <|
          .chk (.eqN r2 r2) <|
          .ret (.agg #[(.int .i64 1), (g vs 40)]) []) (
          .chk (.eqN r2 r2) <|
          .chk (.eqN r2 r2) <|
          .ret (.agg #[(.int .i64 3), (g vs 40)]) []))) (
      .pure [] (.bin .add .int) [(g l7 0), (.int .i64 1)] fun v9 =>
      .pure [] .aidx [v9, (.int .i64 2), (.int .i64 3), (.int .i64 1)] fun v10 =>
      .chk (.eqN r2 r2) <|
      .chk (.eqN r2 r2) <|
      .ret (.agg #[v10, (g vs 40)]) []))
theorem t8_eq (vs : List Value) : sxFun Tryd.prog Tryd.f8 (mkOpts okL [(44, [5, 6, 7, 8])] [] []) vs = t8 vs := by kernel_rfl
theorem run8 {args vs : List Value} (ha : entryArgs Tryd.prog Tryd.f8 args = some vs) (ho : Ones vs) {H : Heap} {O : Own} {Q : Value → Heap → Own → Prop} (h : (t8 vs).den Tryd.prog Q H O) : Triple Tryd.prog 8 args H O Q :=
  triple_run mixed (mkOpts_ok okL_ok _ _ _) Tryd.func8 t8_eq ha ho h

/- zeitnot/zeitnotref26.Judge -/
def t9 (vs : List Value) : Tree :=
  .newbox fun r0 =>
  .newbox fun r1 =>
  .newbox fun r2 =>
  .pure [] (.bin .lss .int) [(g vs 40), (.int .i64 1)] fun v0 =>
  .chk (.eqV v0 v0) <|
  .pure [] (.bin .gtr .int) [(g vs 40), (.int .i64 5)] fun v1 =>
  .chk (.eqV v0 v0) <|
  .pure [] .pick [v0, (.bool true), v1] fun v2 =>
  .br v2 (
    .chk (.eqN r2 r2) <|
    .chk (.eqN r2 r2) <|
    .ret (.agg #[(.int .i64 0), (.int .i64 0)]) []) (
    .chk (.eqN r0 r0) <|
    .chk (.eqN r0 r0) <|
    .newbox fun r3 =>
    .newbox fun r4 =>
    .chk (.eqN r3 r3) <|
    .chk (.eqN r4 r4) <|
    .chk (.eqN r3 r3) <|
    .pure [] .len [(g vs 6)] fun v3 =>
    .chk (.eqN r4 r4) <|
    .pure [] .len [(g vs 20)] fun v4 =>
    .chk (.eqN r1 r1) <|
    .chk (.eqN r1 r1) <|
    .chk (.eqV (g vs 38) (g vs 38)) <|
    .chk (.eqV (g vs 38) (g vs 38)) <|
    .pure [] .pick [(g vs 38), (g vs 39), (.bool false)] fun v5 =>
    .br v5 (
      .chk (.eqN r2 r2) <|
      .chk (.eqN r2 r2) <|
      .ret (.agg #[(.int .i64 3), (g vs 40)]) []) (
      .chk (.eqN r1 r1) <|
      .br (g vs 38) (
        .chk (.eqN r2 r2) <|
        .chk (.eqN r2 r2) <|
        .ret (.agg #[(.int .i64 2), (g vs 40)]) []) (
        .chk (.eqN r1 r1) <|
        .br (g vs 39) (
          .chk (.eqN r2 r2) <|
          .chk (.eqN r2 r2) <|
          .ret (.agg #[(.int .i64 1), (g vs 40)]) []) (
          .chk (.eqN r3 r3) <|
          .chk (.eqN r4 r4) <|
          .pure [] (.bin .gtr .int) [(g vs 1), (g vs 15)] fun v6 =>
          .chk (.eqN r3 r3) <|
          .chk (.eqV v6 v6) <|
          .chk (.eqN r4 r4) <|
          .chk (.eqV v6 v6) <|
          .chk (.eqV v6 v6) <|
          .chk (.eqV v6 v6) <|
          .pure [] (.bin .eql .int) [(g vs 1), (g vs 15)] fun v7 =>
          .chk (.eqV v6 v6) <|
          .chk (.eqV v7 v7) <|
          .chk (.eqV v6 v6) <|
          .chk (.eqV v7 v7) <|
          .chk (.eqV v6 v6) <|
          .pure [] (.bin .gtr .int) [v3, v4] fun v8 =>
          .chk (.eqV v6 v6) <|
          .chk (.eqV v7 v7) <|
          .chk (.eqV v6 v6) <|
          .pure [] .pick [v7, v8, (.bool false)] fun v9 =>
          .chk (.eqV v6 v6) <|
          .pure [] .pick [v6, (.bool true), v9] fun v10 =>
          .br v10 (
            .chk (.eqN r2 r2) <|
            .chk (.eqN r2 r2) <|
            .ret (.agg #[(.int .i64 1), (g vs 40)]) []) (
            .chk (.eqN r3 r3) <|
            .chk (.eqN r4 r4) <|
            .pure [] (.bin .lss .int) [(g vs 1), (g vs 15)] fun v11 =>
            .chk (.eqV v11 v11) <|
            .chk (.eqV v11 v11) <|
            .pure [] (.bin .lss .int) [v3, v4] fun v12 =>
            .chk (.eqV v11 v11) <|
            .pure [] .pick [v11, (.bool true), v12] fun v13 =>
            .br v13 (
              .chk (.eqN r2 r2) <|
              .chk (.eqN r2 r2) <|
              .ret (.agg #[(.int .i64 2), (g vs 40)]) []) (
              .chk (.eqN r2 r2) <|
              .chk (.eqN r2 r2) <|
              .ret (.agg #[(.int .i64 3), (g vs 40)]) []))))))
theorem t9_eq (vs : List Value) : sxFun Tryd.prog Tryd.f9 (mkOpts okL [(44, [5, 6, 7, 8])] [] []) vs = t9 vs := by kernel_rfl
theorem run9 {args vs : List Value} (ha : entryArgs Tryd.prog Tryd.f9 args = some vs) (ho : Ones vs) {H : Heap} {O : Own} {Q : Value → Heap → Own → Prop} (h : (t9 vs).den Tryd.prog Q H O) : Triple Tryd.prog 9 args H O Q :=
  triple_run mixed (mkOpts_ok okL_ok _ _ _) Tryd.func9 t9_eq ha ho h

/- zeitnot/result.Prompts -/
def t10 (vs : List Value) : Tree :=
  .newbox fun r0 =>
  .chk (.eqN r0 r0) <|
  .call false 22 [(.agg #[(g vs 0), (g vs 1), (g vs 2), (g vs 3), (g vs 4), (g vs 5)])] [] [] .one fun l0 _ =>
  .pure [] .not [(g l0 0)] fun v1 =>
  .br v1 (
    .ret (.tuple #[(.int .i64 0), (.int .i64 2)]) []) (
    .chk (.eqN r0 r0) <|
    .pure [] (.bin .mul .int) [(.int .i64 2), (g vs 2)] fun v2 =>
    .pure [] (.bin .mul .int) [v2, (.int .i64 12)] fun v3 =>
    .chk (.eqN r0 r0) <|
    .pure [] (.bin .mul .int) [(.int .i64 4), (g vs 4)] fun v4 =>
    .chk (.eqN r0 r0) <|
    .pure [] (.bin .mul .int) [(.int .i64 4), (g vs 3)] fun v5 =>
    .pure [] (.bin .add .int) [v3, v4] fun v6 =>
    .pure [] (.bin .add .int) [v6, v5] fun v7 =>
    .chk (.eqN r0 r0) <|
    .pure [] (.bin .add .int) [v7, (g vs 3)] fun v8 =>
    .pure [] (.bin .add .int) [v8, (.int .i64 6)] fun v9 =>
    .chk (.eqN r0 r0) <|
    .pure [] (.bin .add .int) [(g vs 1), (.int .i64 1)] fun v10 =>
    .pure [] (.bin .mul .int) [(.int .i64 2), v10] fun v11 =>
    .chk (.eqN r0 r0) <|
    .pure [] (.bin .mul .int) [(g vs 5), v9] fun v12 =>
    .pure [] (.bin .add .int) [v11, v12] fun v13 =>
    .ret (.tuple #[v13, (.int .i64 0)]) [])
theorem t10_eq (vs : List Value) : sxFun Tryd.prog Tryd.f10 (mkOpts okL [(44, [5, 6, 7, 8])] [] []) vs = t10 vs := by kernel_rfl
theorem run10 {args vs : List Value} (ha : entryArgs Tryd.prog Tryd.f10 args = some vs) (ho : Ones vs) {H : Heap} {O : Own} {Q : Value → Heap → Own → Prop} (h : (t10 vs).den Tryd.prog Q H O) : Triple Tryd.prog 10 args H O Q :=
  triple_run mixed (mkOpts_ok okL_ok _ _ _) Tryd.func10 t10_eq ha ho h

/- zeitnot/zeitnotref24.Valid -/
def t11 (vs : List Value) : Tree :=
  .newbox fun r0 =>
  .chk (.eqN r0 r0) <|
  .call false 23 [(g vs 0), (.int .i64 1), (.int .i64 9999)] [] [] .one fun l0 _ =>
  .br (g l0 0) (
    .chk (.eqN r0 r0) <|
    .call false 23 [(g vs 1), (.int .i64 0), (.int .i64 7)] [] [] .one fun l1 _ =>
    .br (g l1 0) (
      .chk (.eqN r0 r0) <|
      .call false 23 [(g vs 2), (.int .i64 1), (.int .i64 100)] [] [] .one fun l2 _ =>
      .br (g l2 0) (
        .chk (.eqN r0 r0) <|
        .call false 23 [(g vs 3), (.int .i64 40), (.int .i64 500)] [] [] .one fun l3 _ =>
        .br (g l3 0) (
          .chk (.eqN r0 r0) <|
          .call false 23 [(g vs 4), (.int .i64 0), (.int .i64 100)] [] [] .one fun l4 _ =>
          .br (g l4 0) (
            .chk (.eqN r0 r0) <|
            .call false 23 [(g vs 5), (.int .i64 1), (.int .i64 200)] [] [] .one fun l5 _ =>
            .ret (g l5 0) []) (
            .ret (.bool false) [])) (
          .ret (.bool false) [])) (
        .ret (.bool false) [])) (
      .ret (.bool false) [])) (
    .ret (.bool false) [])
theorem t11_eq (vs : List Value) : sxFun Tryd.prog Tryd.f11 (mkOpts okL [(44, [5, 6, 7, 8])] [] []) vs = t11 vs := by kernel_rfl
theorem run11 {args vs : List Value} (ha : entryArgs Tryd.prog Tryd.f11 args = some vs) (ho : Ones vs) {H : Heap} {O : Own} {Q : Value → Heap → Own → Prop} (h : (t11 vs).den Tryd.prog Q H O) : Triple Tryd.prog 11 args H O Q :=
  triple_run mixed (mkOpts_ok okL_ok _ _ _) Tryd.func11 t11_eq ha ho h

/- zeitnot/zeitnotref26.Prompts -/
def t12 (vs : List Value) : Tree :=
  .newbox fun r0 =>
  .chk (.eqN r0 r0) <|
  .pure [] (.bin .add .int) [(g vs 1), (.int .i64 1)] fun v0 =>
  .pure [] (.bin .mul .int) [(.int .i64 2), v0] fun v1 =>
  .chk (.eqN r0 r0) <|
  .chk (.eqN r0 r0) <|
  .pure [] (.bin .mul .int) [(.int .i64 24), (g vs 2)] fun v2 =>
  .chk (.eqN r0 r0) <|
  .pure [] (.bin .mul .int) [(.int .i64 4), (g vs 4)] fun v3 =>
  .pure [] (.bin .add .int) [v2, v3] fun v4 =>
  .chk (.eqN r0 r0) <|
  .pure [] (.bin .mul .int) [(.int .i64 5), (g vs 3)] fun v5 =>
  .pure [] (.bin .add .int) [v4, v5] fun v6 =>
  .pure [] (.bin .add .int) [v6, (.int .i64 6)] fun v7 =>
  .pure [] (.bin .mul .int) [(g vs 5), v7] fun v8 =>
  .pure [] (.bin .add .int) [v1, v8] fun v9 =>
  .ret v9 []
theorem t12_eq (vs : List Value) : sxFun Tryd.prog Tryd.f12 (mkOpts okL [(44, [5, 6, 7, 8])] [] []) vs = t12 vs := by kernel_rfl
theorem run12 {args vs : List Value} (ha : entryArgs Tryd.prog Tryd.f12 args = some vs) (ho : Ones vs) {H : Heap} {O : Own} {Q : Value → Heap → Own → Prop} (h : (t12 vs).den Tryd.prog Q H O) : Triple Tryd.prog 12 args H O Q :=
  triple_run mixed (mkOpts_ok okL_ok _ _ _) Tryd.func12 t12_eq ha ho h

/- zeitnot/result.Text -/
def t13 (vs : List Value) : Tree :=
  .newbox fun r0 =>
  .chk (.eqN r0 r0) <|
  .pure [] (.bin .lss .int) [(g vs 0), (.int .i64 0)] fun v0 =>
  .chk (.eqN r0 r0) <|
  .chk (.eqV v0 v0) <|
  .chk (.eqV v0 v0) <|
  .pure [] (.bin .geq .int) [(g vs 0), (.int .i64 4)] fun v1 =>
  .chk (.eqV v0 v0) <|
  .pure [] .pick [v0, (.bool true), v1] fun v2 =>
  .chk (.eqN r0 r0) <|
  .chk (.eqV v2 v2) <|
  .chk (.eqV v2 v2) <|
  .pure [] (.bin .lss .int) [(g vs 1), (.int .i64 0)] fun v3 =>
  .chk (.eqV v2 v2) <|
  .pure [] .pick [v2, (.bool true), v3] fun v4 =>
  .chk (.eqN r0 r0) <|
  .chk (.eqV v4 v4) <|
  .chk (.eqV v4 v4) <|
  .pure [] (.bin .geq .int) [(g vs 1), (.int .i64 6)] fun v5 =>
  .chk (.eqV v4 v4) <|
  .pure [] .pick [v4, (.bool true), v5] fun v6 =>
  .chk (.eqN r0 r0) <|
  .chk (.eqV v6 v6) <|
  .chk (.eqV v6 v6) <|
  .pure [] (.bin .eql .int) [(g vs 0), (.int .i64 0)] fun v7 =>
  .chk (.eqN r0 r0) <|
  .chk (.eqV v6 v6) <|
  .chk (.eqV v6 v6) <|
  .pure [] (.bin .eql .int) [(g vs 1), (.int .i64 0)] fun v8 =>
  .chk (.eqV v6 v6) <|
  .chk (.eqV v6 v6) <|
  .pure [] (.bin .neq .bool) [v7, v8] fun v9 =>
  .chk (.eqV v6 v6) <|
  .pure [] .pick [v6, (.bool true), v9] fun v10 =>
  .br v10 (
    .ret (.tuple #[(.string ⟨#[]⟩), (.int .i64 2)]) []) (
    .chk (.eqN r0 r0) <|
    .pure [] (.pidx 4 1) [(.pointer (some ⟨0, 0, none⟩)), (g vs 0)] fun v11 =>
    .load [] v11 1 fun l12 =>
    .pure [] (.bin .add .str) [(g l12 0), (.string ⟨#[32]⟩)] fun v13 =>
    .chk (.eqN r0 r0) <|
    .pure [] (.pidx 6 1) [(.pointer (some ⟨1, 0, none⟩)), (g vs 1)] fun v14 =>
    .load [] v14 1 fun l15 =>
    .pure [] (.bin .add .str) [v13, (g l15 0)] fun v16 =>
    .call true 24 [v16, (.string ⟨#[32]⟩)] [] [] .one fun l17 _ =>
    .ret (.tuple #[(g l17 0), (.int .i64 0)]) [])
theorem t13_eq (vs : List Value) : sxFun Tryd.prog Tryd.f13 (mkOpts okL [(44, [5, 6, 7, 8])] [] []) vs = t13 vs := by kernel_rfl
theorem run13 {args vs : List Value} (ha : entryArgs Tryd.prog Tryd.f13 args = some vs) (ho : Ones vs) {H : Heap} {O : Own} {Q : Value → Heap → Own → Prop} (h : (t13 vs).den Tryd.prog Q H O) : Triple Tryd.prog 13 args H O Q :=
  triple_run mixed (mkOpts_ok okL_ok _ _ _) Tryd.func13 t13_eq ha ho h

/- zeitnot/zeitnotref26.Text -/
def t14 (vs : List Value) : Tree :=
  .newbox fun r0 =>
  .chk (.eqN r0 r0) <|
  .pure [] (.bin .lss .int) [(g vs 0), (.int .i64 0)] fun v0 =>
  .chk (.eqN r0 r0) <|
  .chk (.eqV v0 v0) <|
  .chk (.eqV v0 v0) <|
  .pure [] (.bin .gtr .int) [(g vs 0), (.int .i64 3)] fun v1 =>
  .chk (.eqV v0 v0) <|
  .pure [] .pick [v0, (.bool true), v1] fun v2 =>
  .chk (.eqN r0 r0) <|
  .chk (.eqV v2 v2) <|
  .chk (.eqV v2 v2) <|
  .pure [] (.bin .lss .int) [(g vs 1), (.int .i64 0)] fun v3 =>
  .chk (.eqV v2 v2) <|
  .pure [] .pick [v2, (.bool true), v3] fun v4 =>
  .chk (.eqN r0 r0) <|
  .chk (.eqV v4 v4) <|
  .chk (.eqV v4 v4) <|
  .pure [] (.bin .gtr .int) [(g vs 1), (.int .i64 5)] fun v5 =>
  .chk (.eqV v4 v4) <|
  .pure [] .pick [v4, (.bool true), v5] fun v6 =>
  .chk (.eqN r0 r0) <|
  .chk (.eqV v6 v6) <|
  .chk (.eqV v6 v6) <|
  .pure [] (.bin .eql .int) [(g vs 0), (.int .i64 0)] fun v7 =>
  .chk (.eqN r0 r0) <|
  .chk (.eqV v6 v6) <|
  .chk (.eqV v6 v6) <|
  .pure [] (.bin .eql .int) [(g vs 1), (.int .i64 0)] fun v8 =>
  .chk (.eqV v6 v6) <|
  .chk (.eqV v6 v6) <|
  .pure [] (.bin .neq .bool) [v7, v8] fun v9 =>
  .chk (.eqV v6 v6) <|
  .pure [] .pick [v6, (.bool true), v9] fun v10 =>
  .br v10 (
    .ret (.tuple #[(.string ⟨#[]⟩), (.bool false)]) []) (
    .call false 25 [] [] [] (.tup [none, none]) fun l11 _ =>
    .chk (.eqN r0 r0) <|
    .pure [] (.idx 1) [(g l11 0), (g vs 0)] fun v12 =>
    .load [] v12 1 fun l13 =>
    .chk (.eqN r0 r0) <|
    .pure [] (.idx 1) [(g l11 1), (g vs 1)] fun v14 =>
    .load [] v14 1 fun l15 =>
    .pure [] (.bin .add .str) [(g l13 0), (g l15 0)] fun v16 =>
    .ret (.tuple #[v16, (.bool true)]) [])
theorem t14_eq (vs : List Value) : sxFun Tryd.prog Tryd.f14 (mkOpts okL [(44, [5, 6, 7, 8])] [] []) vs = t14 vs := by kernel_rfl
theorem run14 {args vs : List Value} (ha : entryArgs Tryd.prog Tryd.f14 args = some vs) (ho : Ones vs) {H : Heap} {O : Own} {Q : Value → Heap → Own → Prop} (h : (t14 vs).den Tryd.prog Q H O) : Triple Tryd.prog 14 args H O Q :=
  triple_run mixed (mkOpts_ok okL_ok _ _ _) Tryd.func14 t14_eq ha ho h

/- zeitnot/zeitnotref26.Parse -/
def t15 (vs : List Value) : Tree :=
  .newbox fun r0 =>
  .loop 3 2 [(.int .i64 0)] fun C3 l0 =>
    .pure [] (.bin .leq .int) [(g l0 0), (.int .i64 3)] fun v1 =>
    .br v1 (
      .loop 7 5 [(.int .i64 0)] fun C7 l2 =>
        .pure [] (.bin .leq .int) [(g l2 0), (.int .i64 5)] fun v3 =>
        .br v3 (
          .newbox fun r1 =>
          .chk (.eqN r1 r1) <|
          .chk (.eqN r1 r1) <|
          .call false 14 [(.agg #[(g l0 0), (g l2 0)])] [] [] (.tup [none, none]) fun l4 _ =>
          .chk (.eqV (g l4 1) (g l4 1)) <|
          .chk (.eqV (g l4 1) (g l4 1)) <|
          .pure [] (.bin .eql .str) [(g l4 0), (g vs 0)] fun v5 =>
          .chk (.eqV (g l4 1) (g l4 1)) <|
          .pure [] .pick [(g l4 1), v5, (.bool false)] fun v6 =>
          .br v6 (
            .chk (.eqN r1 r1) <|
            .chk (.eqN r0 r0) <|
            .chk (.eqN r0 r0) <|
            .ret (.tuple #[(.agg #[(g l0 0), (g l2 0)]), (.bool true)]) []) (
            .pure [] (.bin .add .int) [(g l2 0), (.int .i64 1)] fun v7 =>
            .cont 7 C7 [v7] [([(g vs 0)], [(g vs 0)]), ([(.pointer (some ⟨r0, 0, none⟩))], [(.pointer (some ⟨r0, 0, none⟩))]), ([(g l0 0)], [(g l0 0)]), ([(.pointer (some ⟨r0, 0, none⟩)), (.int .i64 0), (.int .i64 0)], [(.pointer (some ⟨r0, 0, none⟩)), (.int .i64 0), (.int .i64 0)])])) (
          .pure [] (.bin .add .int) [(g l0 0), (.int .i64 1)] fun v8 =>
          .cont 3 C3 [v8] [([(g vs 0)], [(g vs 0)]), ([(.pointer (some ⟨r0, 0, none⟩))], [(.pointer (some ⟨r0, 0, none⟩))]), ([(.pointer (some ⟨r0, 0, none⟩)), (.int .i64 0), (.int .i64 0)], [(.pointer (some ⟨r0, 0, none⟩)), (.int .i64 0), (.int .i64 0)])])) (
      .chk (.eqN r0 r0) <|
      .chk (.eqN r0 r0) <|
      .ret (.tuple #[(.agg #[(.int .i64 0), (.int .i64 0)]), (.bool false)]) [])
theorem t15_eq (vs : List Value) : sxFun Tryd.prog Tryd.f15 (mkOpts okL [(44, [5, 6, 7, 8])] [(2, .inv [4] [0, 2] [(2, [])]), (5, .inv [5] [0, 2, 4] [(2, [])])] []) vs = t15 vs := by kernel_rfl
theorem run15 {args vs : List Value} (ha : entryArgs Tryd.prog Tryd.f15 args = some vs) (ho : Ones vs) {H : Heap} {O : Own} {Q : Value → Heap → Own → Prop} (h : (t15 vs).den Tryd.prog Q H O) : Triple Tryd.prog 15 args H O Q :=
  triple_run mixed (mkOpts_ok okL_ok _ _ _) Tryd.func15 t15_eq ha ho h

/- zeitnot/zeitnotlaw26.reads -/
def t16 (vs : List Value) : Tree :=
  .newbox fun r0 =>
  .call false 26 [(g vs 0)] [] [] (.tup [some 2, none]) fun l0 _ =>
  .newbox fun r1 =>
  .chk (.eqN r1 r1) <|
  .chk (.eqN r1 r1) <|
  .chk (.eqN r0 r0) <|
  .raw [] (.eqv .eql 40 false) [(.agg #[(g l0 0), (g l0 1)]), (.agg #[(g vs 1), (g vs 2)])] fun v1 =>
  .chk (.eqV v1 v1) <|
  .chk (.eqV v1 v1) <|
  .pure [] (.bin .eql .int) [(g l0 2), (g vs 3)] fun v2 =>
  .chk (.eqV v1 v1) <|
  .pure [] .pick [v1, v2, (.bool false)] fun v3 =>
  .ret v3 []
theorem t16_eq (vs : List Value) : sxFun Tryd.prog Tryd.f16 (mkOpts okL [(44, [5, 6, 7, 8])] [] []) vs = t16 vs := by kernel_rfl
theorem run16 {args vs : List Value} (ha : entryArgs Tryd.prog Tryd.f16 args = some vs) (ho : Ones vs) {H : Heap} {O : Own} {Q : Value → Heap → Own → Prop} (h : (t16 vs).den Tryd.prog Q H O) : Triple Tryd.prog 16 args H O Q :=
  triple_run mixed (mkOpts_ok okL_ok _ _ _) Tryd.func16 t16_eq ha ho h

/- zeitnot/result.Of -/
def t17 (vs : List Value) : Tree :=
  .newbox fun r0 =>
  .call false 27 [(g vs 0)] [] [] .one fun l0 _ =>
  .pure [] (.bin .eql .ptr) [(g l0 0), (.pointer none)] fun v1 =>
  .br v1 (
    .chk (.eqN r0 r0) <|
    .chk (.eqN r0 r0) <|
    .ret (.tuple #[(.agg #[(.int .i64 0), (.int .i64 0)]), (.int .i64 1)]) []) (
    .call false 28 [(g vs 0)] [] [] (.tup [some 2, none]) fun l2 _ =>
    .newbox fun r1 =>
    .chk (.eqN r1 r1) <|
    .chk (.eqN r1 r1) <|
    .call true 29 [(g vs 0)] [] [] (.agg 38) fun l3 _ =>
    .call true 8 [(.agg #[(g l3 0), (g l3 1), (g l3 2), (g l3 3), (g l3 4), (g l3 5), (g l3 6), (g l3 7), (g l3 8), (g l3 9), (g l3 10), (g l3 11), (g l3 12), (g l3 13), (g l3 14), (g l3 15), (g l3 16), (g l3 17), (g l3 18), (g l3 19), (g l3 20), (g l3 21), (g l3 22), (g l3 23), (g l3 24), (g l3 25), (g l3 26), (g l3 27), (g l3 28), (g l3 29), (g l3 30), (g l3 31), (g l3 32), (g l3 33), (g l3 34), (g l3 35), (g l3 36), (g l3 37)]), (.agg #[(g l2 0), (g l2 1)]), (g l2 2)] [] [] (.agg 2) fun l4 _ =>
    .chk (.eqN r0 r0) <|
    .chk (.eqN r0 r0) <|
    .ret (.tuple #[(.agg #[(g l4 0), (g l4 1)]), (.int .i64 0)]) [])
theorem t17_eq (vs : List Value) : sxFun Tryd.prog Tryd.f17 (mkOpts okL [(44, [5, 6, 7, 8])] [] []) vs = t17 vs := by kernel_rfl
theorem run17 {args vs : List Value} (ha : entryArgs Tryd.prog Tryd.f17 args = some vs) (ho : Ones vs) {H : Heap} {O : Own} {Q : Value → Heap → Own → Prop} (h : (t17 vs).den Tryd.prog Q H O) : Triple Tryd.prog 17 args H O Q :=
  triple_run mixed (mkOpts_ok okL_ok _ _ _) Tryd.func17 t17_eq ha ho h

/- zeitnot/zeitnotref15.Zones -/
def t18 (vs : List Value) : Tree :=
  .newbox fun r0 =>
  .newbox fun r1 =>
  .chk (.eqN r0 r0) <|
  .chk (.eqN r0 r0) <|
  .chk (.eqN r0 r0) <|
  .chk (.eqN r0 r0) <|
  .chk (.eqN r1 r1) <|
  .chk (.eqN r1 r1) <|
  .ret (.agg #[(g vs 5), (g vs 6), (g vs 7), (g vs 8)]) []
theorem t18_eq (vs : List Value) : sxFun Tryd.prog Tryd.f18 (mkOpts okL [(44, [5, 6, 7, 8])] [] []) vs = t18 vs := by kernel_rfl
theorem run18 {args vs : List Value} (ha : entryArgs Tryd.prog Tryd.f18 args = some vs) (ho : Ones vs) {H : Heap} {O : Own} {Q : Value → Heap → Own → Prop} (h : (t18 vs).den Tryd.prog Q H O) : Triple Tryd.prog 18 args H O Q :=
  triple_run mixed (mkOpts_ok okL_ok _ _ _) Tryd.func18 t18_eq ha ho h

/- zeitnot/zeitnotlaw26.judges -/
def t19 (vs : List Value) : Tree :=
  .newbox fun r0 =>
  .chk (.eqN r0 r0) <|
  .call false 8 [(.agg #[(g vs 0), (g vs 1), (g vs 2), (g vs 3), (g vs 4), (g vs 5), (g vs 6), (g vs 7), (g vs 8), (g vs 9), (g vs 10), (g vs 11), (g vs 12), (g vs 13), (g vs 14), (g vs 15), (g vs 16), (g vs 17), (g vs 18), (g vs 19), (g vs 20), (g vs 21), (g vs 22), (g vs 23), (g vs 24), (g vs 25), (g vs 26), (g vs 27), (g vs 28), (g vs 29), (g vs 30), (g vs 31), (g vs 32), (g vs 33), (g vs 34), (g vs 35), (g vs 36), (g vs 37)]), (.agg #[(g vs 38), (g vs 39)]), (g vs 40)] [] [] (.agg 2) fun l0 _ =>
  .newbox fun r1 =>
  .chk (.eqN r1 r1) <|
  .chk (.eqN r1 r1) <|
  .pure [] (.bin .eql .int) [(g l0 0), (g vs 41)] fun v1 =>
  .chk (.eqN r1 r1) <|
  .chk (.eqV v1 v1) <|
  .chk (.eqV v1 v1) <|
  .chk (.eqV v1 v1) <|
  .pure [] (.bin .eql .int) [(g l0 1), (g vs 40)] fun v2 =>
  .chk (.eqV v1 v1) <|
  .chk (.eqV v2 v2) <|
  .chk (.eqV v1 v1) <|
  .pure [] (.bin .eql .int) [(g vs 41), (.int .i64 0)] fun v3 =>
  .chk (.eqV v2 v2) <|
  .chk (.eqV v1 v1) <|
  .chk (.eqN r1 r1) <|
  .chk (.eqV v3 v3) <|
  .chk (.eqV v2 v2) <|
  .chk (.eqV v1 v1) <|
  .chk (.eqV v3 v3) <|
  .chk (.eqV v2 v2) <|
  .chk (.eqV v1 v1) <|
  .pure [] (.bin .eql .int) [(g l0 1), (.int .i64 0)] fun v4 =>
  .chk (.eqV v2 v2) <|
  .chk (.eqV v1 v1) <|
  .chk (.eqV v3 v3) <|
  .chk (.eqV v2 v2) <|
  .chk (.eqV v1 v1) <|
  .pure [] .pick [v3, v4, (.bool false)] fun v5 =>
  .chk (.eqV v1 v1) <|
  .chk (.eqV v2 v2) <|
  .chk (.eqV v1 v1) <|
  .pure [] .pick [v2, (.bool true), v5] fun v6 =>
  .chk (.eqV v1 v1) <|
  .pure [] .pick [v1, v6, (.bool false)] fun v7 =>
  .ret v7 []
theorem t19_eq (vs : List Value) : sxFun Tryd.prog Tryd.f19 (mkOpts okL [(44, [5, 6, 7, 8])] [] []) vs = t19 vs := by kernel_rfl
theorem run19 {args vs : List Value} (ha : entryArgs Tryd.prog Tryd.f19 args = some vs) (ho : Ones vs) {H : Heap} {O : Own} {Q : Value → Heap → Own → Prop} (h : (t19 vs).den Tryd.prog Q H O) : Triple Tryd.prog 19 args H O Q :=
  triple_run mixed (mkOpts_ok okL_ok _ _ _) Tryd.func19 t19_eq ha ho h

/- cmp.Or[int] -/
def t20 (vs : List Value) : Tree :=
  .pure [] .len [(g vs 0)] fun v0 =>
  .loop 5 3 [(.int .i64 0)] fun C5 l1 =>
    .pure [] (.bin .lss .int) [(g l1 0), v0] fun v2 =>
    .br v2 (
      .pure [] (.idx 1) [(g vs 0), (g l1 0)] fun v3 =>
      .load [] v3 1 fun l4 =>
      .pure [] (.bin .neq .int) [(g l4 0), (.int .i64 0)] fun v5 =>
      .br v5 (
        .ret (g l4 0) []) (
        .pure [] (.bin .add .int) [(g l1 0), (.int .i64 1)] fun v6 =>
        .cont 5 C5 [v6] [([(.int .i64 0)], [(.int .i64 0)]), ([(g vs 0)], [(g vs 0)]), ([v0], [v0])])) (
      .ret (.int .i64 0) [])
theorem t20_eq (vs : List Value) : sxFun Tryd.prog Tryd.f20 (mkOpts okL [(44, [5, 6, 7, 8])] [(3, .inv [8] [3, 6, 7] [])] []) vs = t20 vs := by kernel_rfl
theorem run20 {args vs : List Value} (ha : entryArgs Tryd.prog Tryd.f20 args = some vs) (ho : Ones vs) {H : Heap} {O : Own} {Q : Value → Heap → Own → Prop} (h : (t20 vs).den Tryd.prog Q H O) : Triple Tryd.prog 20 args H O Q :=
  triple_run mixed (mkOpts_ok okL_ok _ _ _) Tryd.func20 t20_eq ha ho h

/- cmp.Compare[int] -/
def t21 (vs : List Value) : Tree :=
  .call false 30 [(g vs 0)] [] [] .one fun l0 _ =>
  .call false 30 [(g vs 1)] [] [] .one fun l1 _ =>
  .br (g l0 0) (
    .br (g l1 0) (
      .ret (.int .i64 0) []) (
      .ret (.int .i64 (-1)) [])) (
    .br (g l1 0) (
      .ret (.int .i64 1) []) (
      .pure [] (.bin .lss .int) [(g vs 0), (g vs 1)] fun v2 =>
      .br v2 (
        .ret (.int .i64 (-1)) []) (
        .pure [] (.bin .gtr .int) [(g vs 0), (g vs 1)] fun v3 =>
        .br v3 (
          .ret (.int .i64 1) []) (
          .ret (.int .i64 0) []))))
theorem t21_eq (vs : List Value) : sxFun Tryd.prog Tryd.f21 (mkOpts okL [(44, [5, 6, 7, 8])] [] []) vs = t21 vs := by kernel_rfl
theorem run21 {args vs : List Value} (ha : entryArgs Tryd.prog Tryd.f21 args = some vs) (ho : Ones vs) {H : Heap} {O : Own} {Q : Value → Heap → Own → Prop} (h : (t21 vs).den Tryd.prog Q H O) : Triple Tryd.prog 21 args H O Q :=
  triple_run mixed (mkOpts_ok okL_ok _ _ _) Tryd.func21 t21_eq ha ho h

/- zeitnot/prompt.Valid -/
def t22 (vs : List Value) : Tree :=
  .newbox fun r0 =>
  .chk (.eqN r0 r0) <|
  .call false 31 [(g vs 0), (.int .i64 1), (.int .i64 9999)] [] [] .one fun l0 _ =>
  .br (g l0 0) (
    .chk (.eqN r0 r0) <|
    .call false 31 [(g vs 1), (.int .i64 0), (.int .i64 7)] [] [] .one fun l1 _ =>
    .br (g l1 0) (
      .chk (.eqN r0 r0) <|
      .call false 31 [(g vs 2), (.int .i64 1), (.int .i64 100)] [] [] .one fun l2 _ =>
      .br (g l2 0) (
        .chk (.eqN r0 r0) <|
        .call false 31 [(g vs 3), (.int .i64 40), (.int .i64 500)] [] [] .one fun l3 _ =>
        .br (g l3 0) (
          .chk (.eqN r0 r0) <|
          .call false 31 [(g vs 4), (.int .i64 0), (.int .i64 100)] [] [] .one fun l4 _ =>
          .br (g l4 0) (
            .chk (.eqN r0 r0) <|
            .call false 31 [(g vs 5), (.int .i64 1), (.int .i64 200)] [] [] .one fun l5 _ =>
            .ret (g l5 0) []) (
            .ret (.bool false) [])) (
          .ret (.bool false) [])) (
        .ret (.bool false) [])) (
      .ret (.bool false) [])) (
    .ret (.bool false) [])
theorem t22_eq (vs : List Value) : sxFun Tryd.prog Tryd.f22 (mkOpts okL [(44, [5, 6, 7, 8])] [] []) vs = t22 vs := by kernel_rfl
theorem run22 {args vs : List Value} (ha : entryArgs Tryd.prog Tryd.f22 args = some vs) (ho : Ones vs) {H : Heap} {O : Own} {Q : Value → Heap → Own → Prop} (h : (t22 vs).den Tryd.prog Q H O) : Triple Tryd.prog 22 args H O Q :=
  triple_run mixed (mkOpts_ok okL_ok _ _ _) Tryd.func22 t22_eq ha ho h

/- zeitnot/zeitnotref24.within -/
def t23 (vs : List Value) : Tree :=
  .pure [] (.bin .geq .int) [(g vs 0), (g vs 1)] fun v0 =>
  .chk (.eqV v0 v0) <|
  .chk (.eqV v0 v0) <|
  .pure [] (.bin .leq .int) [(g vs 0), (g vs 2)] fun v1 =>
  .chk (.eqV v0 v0) <|
  .pure [] .pick [v0, v1, (.bool false)] fun v2 =>
  .ret v2 []
theorem t23_eq (vs : List Value) : sxFun Tryd.prog Tryd.f23 (mkOpts okL [(44, [5, 6, 7, 8])] [] []) vs = t23 vs := by kernel_rfl
theorem run23 {args vs : List Value} (ha : entryArgs Tryd.prog Tryd.f23 args = some vs) (ho : Ones vs) {H : Heap} {O : Own} {Q : Value → Heap → Own → Prop} (h : (t23 vs).den Tryd.prog Q H O) : Triple Tryd.prog 23 args H O Q :=
  triple_run mixed (mkOpts_ok okL_ok _ _ _) Tryd.func23 t23_eq ha ho h

/- strings.TrimSuffix -/
def t24 (vs : List Value) : Tree :=
  .call false 32 [(g vs 0), (g vs 1)] [] [] .one fun l0 _ =>
  .ret (g l0 0) []
theorem t24_eq (vs : List Value) : sxFun Tryd.prog Tryd.f24 (mkOpts okL [(44, [5, 6, 7, 8])] [] []) vs = t24 vs := by kernel_rfl
theorem run24 {args vs : List Value} (ha : entryArgs Tryd.prog Tryd.f24 args = some vs) (ho : Ones vs) {H : Heap} {O : Own} {Q : Value → Heap → Own → Prop} (h : (t24 vs).den Tryd.prog Q H O) : Triple Tryd.prog 24 args H O Q :=
  triple_run mixed (mkOpts_ok okL_ok _ _ _) Tryd.func24 t24_eq ha ho h

/- zeitnot/zeitnotref26.words -/
def t25 (vs : List Value) : Tree :=
  .newbox fun r0 =>
  .newbox fun r1 =>
  .ret (.tuple #[(.slice (some ⟨r0, 0, none⟩) 4 4), (.slice (some ⟨r1, 0, none⟩) 6 6)]) [⟨r0, 9, [(.string ⟨#[110, 111, 110, 101]⟩), (.string ⟨#[122, 101, 114, 111]⟩), (.string ⟨#[111, 110, 101]⟩), (.string ⟨#[100, 114, 97, 119]⟩)]⟩, ⟨r1, 9, [(.string ⟨#[]⟩), (.string ⟨#[32, 108, 105, 102, 101]⟩), (.string ⟨#[32, 100, 101, 99, 107]⟩), (.string ⟨#[32, 99, 111, 110, 99, 101, 100, 101]⟩), (.string ⟨#[32, 116, 105, 109, 101]⟩), (.string ⟨#[32, 99, 97, 112]⟩)]⟩]
theorem t25_eq (vs : List Value) : sxFun Tryd.prog Tryd.f25 (mkOpts okL [(44, [5, 6, 7, 8])] [] []) vs = t25 vs := by kernel_rfl
theorem run25 {args vs : List Value} (ha : entryArgs Tryd.prog Tryd.f25 args = some vs) (ho : Ones vs) {H : Heap} {O : Own} {Q : Value → Heap → Own → Prop} (h : (t25 vs).den Tryd.prog Q H O) : Triple Tryd.prog 25 args H O Q :=
  triple_run mixed (mkOpts_ok okL_ok _ _ _) Tryd.func25 t25_eq ha ho h

/- zeitnot/result.Parse -/
def t26 (vs : List Value) : Tree :=
  .newbox fun r0 =>
  .call false 33 [(g vs 0), (.string ⟨#[32]⟩)] [] [] (.tup [none, none, none]) fun l0 _ =>
  .call true 34 [(.slice (some ⟨0, 0, none⟩) 4 4), (g l0 0)] [] [] .one fun l1 _ =>
  .call true 34 [(.slice (some ⟨1, 0, none⟩) 6 6), (g l0 1)] [] [] .one fun l2 _ =>
  .newbox fun r1 =>
  .chk (.eqN r1 r1) <|
  .chk (.eqN r1 r1) <|
  .call false 13 [(.agg #[(g l1 0), (g l2 0)])] [] [] (.tup [none, none]) fun l3 _ =>
  .pure [] (.bin .neq .int) [(g l3 1), (.int .i64 0)] fun v4 =>
  .chk (.eqV v4 v4) <|
  .chk (.eqV v4 v4) <|
  .pure [] (.bin .neq .str) [(g l3 0), (g vs 0)] fun v5 =>
  .chk (.eqV v4 v4) <|
  .pure [] .pick [v4, (.bool true), v5] fun v6 =>
  .br v6 (
    .chk (.eqN r0 r0) <|
    .chk (.eqN r0 r0) <|
    .ret (.tuple #[(.agg #[(.int .i64 0), (.int .i64 0)]), (.int .i64 6)]) []) (
    .chk (.eqN r1 r1) <|
    .chk (.eqN r0 r0) <|
    .chk (.eqN r0 r0) <|
    .ret (.tuple #[(.agg #[(g l1 0), (g l2 0)]), (.int .i64 0)]) [])
theorem t26_eq (vs : List Value) : sxFun Tryd.prog Tryd.f26 (mkOpts okL [(44, [5, 6, 7, 8])] [] []) vs = t26 vs := by kernel_rfl
theorem run26 {args vs : List Value} (ha : entryArgs Tryd.prog Tryd.f26 args = some vs) (ho : Ones vs) {H : Heap} {O : Own} {Q : Value → Heap → Own → Prop} (h : (t26 vs).den Tryd.prog Q H O) : Triple Tryd.prog 26 args H O Q :=
  triple_run mixed (mkOpts_ok okL_ok _ _ _) Tryd.func26 t26_eq ha ho h

/- (*zeitnot/rules.Game).Copy -/
def t27 (vs : List Value) : Tree :=
  .call false 35 [(g vs 0)] [] [] .one fun l0 _ =>
  .br (g l0 0) (
    .ret (.pointer none) []) (
    .chk (.ptr [] (g vs 0)) <|
    .load [] (g vs 0) 49 fun l1 =>
    .newbox fun r0 =>
    .chk (.eqN r0 r0) <|
    .chk (.ptr [] (g vs 0)) <|
    .chk (.ptr [] (g vs 0)) <|
    .load [] (ptrAdd (g vs 0) 7) 38 fun l2 =>
    .chk (.ptr [] (g vs 0)) <|
    .chk (.ptr [] (g vs 0)) <|
    .load [] (ptrAdd (g vs 0) 45) 1 fun l3 =>
    .call true 36 [(.agg #[(g l2 0), (g l2 1), (g l2 2), (g l2 3), (g l2 4), (g l2 5), (g l2 6), (g l2 7), (g l2 8), (g l2 9), (g l2 10), (g l2 11), (g l2 12), (g l2 13), (g l2 14), (g l2 15), (g l2 16), (g l2 17), (g l2 18), (g l2 19), (g l2 20), (g l2 21), (g l2 22), (g l2 23), (g l2 24), (g l2 25), (g l2 26), (g l2 27), (g l2 28), (g l2 29), (g l2 30), (g l2 31), (g l2 32), (g l2 33), (g l2 34), (g l2 35), (g l2 36), (g l2 37)])] [] [] (.agg 38) fun l4 _ =>
    .call true 37 [(g l3 0)] [] [] .one fun l5 _ =>
    .chk (.eqN r0 r0) <|
    .chk (.eqN r0 r0) <|
    .ret (.pointer (some ⟨r0, 0, none⟩)) [⟨r0, 61, [(g l1 0), (g l1 1), (g l1 2), (g l1 3), (g l1 4), (g l1 5), (g l1 6), (g l4 0), (g l4 1), (g l4 2), (g l4 3), (g l4 4), (g l4 5), (g l4 6), (g l4 7), (g l4 8), (g l4 9), (g l4 10), (g l4 11), (g l4 12), (g l4 13), (g l4 14), (g l4 15), (g l4 16), (g l4 17), (g l4 18), (g l4 19), (g l4 20), (g l4 21), (g l4 22), (g l4 23), (g l4 24), (g l4 25), (g l4 26), (g l4 27), (g l4 28), (g l4 29), (g l4 30), (g l4 31), (g l4 32), (g l4 33), (g l4 34), (g l4 35), (g l4 36), (g l4 37), (g l5 0), (g l1 46), (g l1 47), (g l1 48)]⟩])
theorem t27_eq (vs : List Value) : sxFun Tryd.prog Tryd.f27 (mkOpts okL [(44, [5, 6, 7, 8])] [] []) vs = t27 vs := by kernel_rfl
theorem run27 {args vs : List Value} (ha : entryArgs Tryd.prog Tryd.f27 args = some vs) (ho : Ones vs) {H : Heap} {O : Own} {Q : Value → Heap → Own → Prop} (h : (t27 vs).den Tryd.prog Q H O) : Triple Tryd.prog 27 args H O Q :=
  triple_run mixed (mkOpts_ok okL_ok _ _ _) Tryd.func27 t27_eq ha ho h

/- (*zeitnot/rules.Game).Ended -/
def t28 (vs : List Value) : Tree :=
  .newbox fun r0 =>
  .call false 35 [(g vs 0)] [] [] .one fun l0 _ =>
  .br (g l0 0) (
    .chk (.eqN r0 r0) <|
    .chk (.eqN r0 r0) <|
    .ret (.tuple #[(.agg #[(.bool false), (.bool false)]), (.int .i64 0)]) []) (
    .chk (.ptr [] (g vs 0)) <|
    .chk (.ptr [] (g vs 0)) <|
    .load [] (ptrAdd (g vs 0) 46) 2 fun l1 =>
    .chk (.ptr [] (g vs 0)) <|
    .chk (.ptr [] (g vs 0)) <|
    .load [] (ptrAdd (g vs 0) 48) 1 fun l2 =>
    .chk (.eqN r0 r0) <|
    .chk (.eqN r0 r0) <|
    .ret (.tuple #[(.agg #[(g l1 0), (g l1 1)]), (g l2 0)]) [])
theorem t28_eq (vs : List Value) : sxFun Tryd.prog Tryd.f28 (mkOpts okL [(44, [5, 6, 7, 8])] [] []) vs = t28 vs := by kernel_rfl
theorem run28 {args vs : List Value} (ha : entryArgs Tryd.prog Tryd.f28 args = some vs) (ho : Ones vs) {H : Heap} {O : Own} {Q : Value → Heap → Own → Prop} (h : (t28 vs).den Tryd.prog Q H O) : Triple Tryd.prog 28 args H O Q :=
  triple_run mixed (mkOpts_ok okL_ok _ _ _) Tryd.func28 t28_eq ha ho h

/- (*zeitnot/rules.Game).Board -/
def t29 (vs : List Value) : Tree :=
  .newbox fun r0 =>
  .call false 35 [(g vs 0)] [] [] .one fun l0 _ =>
  .br (g l0 0) (
    .chk (.eqN r0 r0) <|
    .chk (.eqN r0 r0) <|
    .ret (.agg #[(.slice none 0 0), (.int .i64 0), (.int .i64 0), (.int .i64 0), (.int .i64 0), (.int .i64 0), (.slice none 0 0), (.slice none 0 0), (.slice none 0 0), (.slice none 0 0), (.bool false), (.bool false), (.bool false), (.int .i64 0), (.int .i64 0), (.int .i64 0), (.int .i64 0), (.int .i64 0), (.int .i64 0), (.int .i64 0), (.slice none 0 0), (.slice none 0 0), (.slice none 0 0), (.slice none 0 0), (.bool false), (.bool false), (.bool false), (.int .i64 0), (.int .i64 0), (.slice none 0 0), (.slice none 0 0), (.slice none 0 0), (.slice none 0 0), (.int .i64 0), (.int .i64 0), (.int .i64 0), (.int .i64 0), (.int .i64 0)]) []) (
    .chk (.ptr [] (g vs 0)) <|
    .chk (.ptr [] (g vs 0)) <|
    .load [] (ptrAdd (g vs 0) 7) 38 fun l1 =>
    .call false 36 [(.agg #[(g l1 0), (g l1 1), (g l1 2), (g l1 3), (g l1 4), (g l1 5), (g l1 6), (g l1 7), (g l1 8), (g l1 9), (g l1 10), (g l1 11), (g l1 12), (g l1 13), (g l1 14), (g l1 15), (g l1 16), (g l1 17), (g l1 18), (g l1 19), (g l1 20), (g l1 21), (g l1 22), (g l1 23), (g l1 24), (g l1 25), (g l1 26), (g l1 27), (g l1 28), (g l1 29), (g l1 30), (g l1 31), (g l1 32), (g l1 33), (g l1 34), (g l1 35), (g l1 36), (g l1 37)])] [] [] (.agg 38) fun l2 _ =>
    .chk (.eqN r0 r0) <|
    .chk (.eqN r0 r0) <|
    .ret (.agg #[(g l2 0), (g l2 1), (g l2 2), (g l2 3), (g l2 4), (g l2 5), (g l2 6), (g l2 7), (g l2 8), (g l2 9), (g l2 10), (g l2 11), (g l2 12), (g l2 13), (g l2 14), (g l2 15), (g l2 16), (g l2 17), (g l2 18), (g l2 19), (g l2 20), (g l2 21), (g l2 22), (g l2 23), (g l2 24), (g l2 25), (g l2 26), (g l2 27), (g l2 28), (g l2 29), (g l2 30), (g l2 31), (g l2 32), (g l2 33), (g l2 34), (g l2 35), (g l2 36), (g l2 37)]) [])
theorem t29_eq (vs : List Value) : sxFun Tryd.prog Tryd.f29 (mkOpts okL [(44, [5, 6, 7, 8])] [] []) vs = t29 vs := by kernel_rfl
theorem run29 {args vs : List Value} (ha : entryArgs Tryd.prog Tryd.f29 args = some vs) (ho : Ones vs) {H : Heap} {O : Own} {Q : Value → Heap → Own → Prop} (h : (t29 vs).den Tryd.prog Q H O) : Triple Tryd.prog 29 args H O Q :=
  triple_run mixed (mkOpts_ok okL_ok _ _ _) Tryd.func29 t29_eq ha ho h

/- cmp.isNaN[int] -/
def t30 (vs : List Value) : Tree :=
  .pure [] (.bin .neq .int) [(g vs 0), (g vs 0)] fun v0 =>
  .ret v0 []
theorem t30_eq (vs : List Value) : sxFun Tryd.prog Tryd.f30 (mkOpts okL [(44, [5, 6, 7, 8])] [] []) vs = t30 vs := by kernel_rfl
theorem run30 {args vs : List Value} (ha : entryArgs Tryd.prog Tryd.f30 args = some vs) (ho : Ones vs) {H : Heap} {O : Own} {Q : Value → Heap → Own → Prop} (h : (t30 vs).den Tryd.prog Q H O) : Triple Tryd.prog 30 args H O Q :=
  triple_run mixed (mkOpts_ok okL_ok _ _ _) Tryd.func30 t30_eq ha ho h

/- zeitnot/prompt.within -/
def t31 (vs : List Value) : Tree :=
  .pure [] (.bin .geq .int) [(g vs 0), (g vs 1)] fun v0 =>
  .chk (.eqV v0 v0) <|
  .chk (.eqV v0 v0) <|
  .pure [] (.bin .leq .int) [(g vs 0), (g vs 2)] fun v1 =>
  .chk (.eqV v0 v0) <|
  .pure [] .pick [v0, v1, (.bool false)] fun v2 =>
  .ret v2 []
theorem t31_eq (vs : List Value) : sxFun Tryd.prog Tryd.f31 (mkOpts okL [(44, [5, 6, 7, 8])] [] []) vs = t31 vs := by kernel_rfl
theorem run31 {args vs : List Value} (ha : entryArgs Tryd.prog Tryd.f31 args = some vs) (ho : Ones vs) {H : Heap} {O : Own} {Q : Value → Heap → Own → Prop} (h : (t31 vs).den Tryd.prog Q H O) : Triple Tryd.prog 31 args H O Q :=
  triple_run mixed (mkOpts_ok okL_ok _ _ _) Tryd.func31 t31_eq ha ho h

/- internal/stringslite.TrimSuffix -/
def t32 (vs : List Value) : Tree :=
  .call false 38 [(g vs 0), (g vs 1)] [] [] .one fun l0 _ =>
  .br (g l0 0) (
    .pure [] .slen [(g vs 0)] fun v1 =>
    .pure [] .slen [(g vs 1)] fun v2 =>
    .pure [] (.bin .sub .int) [v1, v2] fun v3 =>
    .pure [] (.sslc false true) [(g vs 0), v3] fun v4 =>
    .ret v4 []) (
    .ret (g vs 0) [])
theorem t32_eq (vs : List Value) : sxFun Tryd.prog Tryd.f32 (mkOpts okL [(44, [5, 6, 7, 8])] [] []) vs = t32 vs := by kernel_rfl
theorem run32 {args vs : List Value} (ha : entryArgs Tryd.prog Tryd.f32 args = some vs) (ho : Ones vs) {H : Heap} {O : Own} {Q : Value → Heap → Own → Prop} (h : (t32 vs).den Tryd.prog Q H O) : Triple Tryd.prog 32 args H O Q :=
  triple_run mixed (mkOpts_ok okL_ok _ _ _) Tryd.func32 t32_eq ha ho h

/- strings.Cut -/
def t33 (vs : List Value) : Tree :=
  .call false 39 [(g vs 0), (g vs 1)] [] [] (.tup [none, none, none]) fun l0 _ =>
  .ret (.tuple #[(g l0 0), (g l0 1), (g l0 2)]) []
theorem t33_eq (vs : List Value) : sxFun Tryd.prog Tryd.f33 (mkOpts okL [(44, [5, 6, 7, 8])] [] []) vs = t33 vs := by kernel_rfl
theorem run33 {args vs : List Value} (ha : entryArgs Tryd.prog Tryd.f33 args = some vs) (ho : Ones vs) {H : Heap} {O : Own} {Q : Value → Heap → Own → Prop} (h : (t33 vs).den Tryd.prog Q H O) : Triple Tryd.prog 33 args H O Q :=
  triple_run mixed (mkOpts_ok okL_ok _ _ _) Tryd.func33 t33_eq ha ho h

/- slices.Index[[]string,string] -/
def t34 (vs : List Value) : Tree :=
  .pure [] .len [(g vs 0)] fun v0 =>
  .loop 4 2 [(.int .i64 0)] fun C4 l1 =>
    .pure [] (.bin .lss .int) [(g l1 0), v0] fun v2 =>
    .br v2 (
      .pure [] (.idx 1) [(g vs 0), (g l1 0)] fun v3 =>
      .load [] v3 1 fun l4 =>
      .pure [] (.bin .eql .str) [(g vs 1), (g l4 0)] fun v5 =>
      .br v5 (
        .ret (g l1 0) []) (
        .pure [] (.bin .add .int) [(g l1 0), (.int .i64 1)] fun v6 =>
        .cont 4 C4 [v6] [([(g vs 0)], [(g vs 0)]), ([(g vs 1)], [(g vs 1)]), ([v0], [v0])])) (
      .ret (.int .i64 (-1)) [])
theorem t34_eq (vs : List Value) : sxFun Tryd.prog Tryd.f34 (mkOpts okL [(44, [5, 6, 7, 8])] [(2, .inv [8] [0, 1, 7] [])] []) vs = t34 vs := by kernel_rfl
theorem run34 {args vs : List Value} (ha : entryArgs Tryd.prog Tryd.f34 args = some vs) (ho : Ones vs) {H : Heap} {O : Own} {Q : Value → Heap → Own → Prop} (h : (t34 vs).den Tryd.prog Q H O) : Triple Tryd.prog 34 args H O Q :=
  triple_run mixed (mkOpts_ok okL_ok _ _ _) Tryd.func34 t34_eq ha ho h

/- (*zeitnot/rules.Game).none -/
def t35 (vs : List Value) : Tree :=
  .pure [] (.bin .eql .ptr) [(g vs 0), (.pointer none)] fun v0 =>
  .chk (.ptr [(v0, false)] (g vs 0)) <|
  .chk (.eqV v0 v0) <|
  .chk (.ptr [(v0, false)] (g vs 0)) <|
  .chk (.eqV v0 v0) <|
  .chk (.eqV v0 v0) <|
  .load [(v0, false)] (ptrAdd (g vs 0) 45) 1 fun l1 =>
  .chk (.eqV v0 v0) <|
  .pure [] (.bin .eql .ptr) [(g l1 0), (.pointer none)] fun v2 =>
  .chk (.eqV v0 v0) <|
  .pure [] .pick [v0, (.bool true), v2] fun v3 =>
  .ret v3 []
theorem t35_eq (vs : List Value) : sxFun Tryd.prog Tryd.f35 (mkOpts okL [(44, [5, 6, 7, 8])] [] []) vs = t35 vs := by kernel_rfl
theorem run35 {args vs : List Value} (ha : entryArgs Tryd.prog Tryd.f35 args = some vs) (ho : Ones vs) {H : Heap} {O : Own} {Q : Value → Heap → Own → Prop} (h : (t35 vs).den Tryd.prog Q H O) : Triple Tryd.prog 35 args H O Q :=
  triple_run mixed (mkOpts_ok okL_ok _ _ _) Tryd.func35 t35_eq ha ho h

/- internal/stringslite.HasSuffix -/
def t38 (vs : List Value) : Tree :=
  .pure [] .slen [(g vs 0)] fun v0 =>
  .pure [] .slen [(g vs 1)] fun v1 =>
  .pure [] (.bin .geq .int) [v0, v1] fun v2 =>
  .chk (.eqV v2 v2) <|
  .pure [] .slen [(g vs 0)] fun v3 =>
  .chk (.eqV v2 v2) <|
  .pure [] .slen [(g vs 1)] fun v4 =>
  .chk (.eqV v2 v2) <|
  .chk (.eqV v2 v2) <|
  .pure [] (.bin .sub .int) [v3, v4] fun v5 =>
  .chk (.eqV v2 v2) <|
  .chk (.eqV v2 v2) <|
  .pure [(v2, true)] (.sslc true false) [(g vs 0), v5] fun v6 =>
  .chk (.eqV v2 v2) <|
  .chk (.eqV v2 v2) <|
  .pure [] (.bin .eql .str) [v6, (g vs 1)] fun v7 =>
  .chk (.eqV v2 v2) <|
  .pure [] .pick [v2, v7, (.bool false)] fun v8 =>
  .ret v8 []
theorem t38_eq (vs : List Value) : sxFun Tryd.prog Tryd.f38 (mkOpts okL [(44, [5, 6, 7, 8])] [] []) vs = t38 vs := by kernel_rfl
theorem run38 {args vs : List Value} (ha : entryArgs Tryd.prog Tryd.f38 args = some vs) (ho : Ones vs) {H : Heap} {O : Own} {Q : Value → Heap → Own → Prop} (h : (t38 vs).den Tryd.prog Q H O) : Triple Tryd.prog 38 args H O Q :=
  triple_run mixed (mkOpts_ok okL_ok _ _ _) Tryd.func38 t38_eq ha ho h

/- internal/stringslite.Cut -/
def t39 (vs : List Value) : Tree :=
  .call false 46 [(g vs 0), (g vs 1)] [] [] .one fun l0 _ =>
  .pure [] (.bin .geq .int) [(g l0 0), (.int .i64 0)] fun v1 =>
  .br v1 (
    .pure [] (.sslc false true) [(g vs 0), (g l0 0)] fun v2 =>
    .pure [] .slen [(g vs 1)] fun v3 =>
    .pure [] (.bin .add .int) [(g l0 0), v3] fun v4 =>
    .pure [] (.sslc true false) [(g vs 0), v4] fun v5 =>
    .ret (.tuple #[v2, v5, (.bool true)]) []) (
    .ret (.tuple #[(g vs 0), (.string ⟨#[]⟩), (.bool false)]) [])
theorem t39_eq (vs : List Value) : sxFun Tryd.prog Tryd.f39 (mkOpts okL [(44, [5, 6, 7, 8])] [] []) vs = t39 vs := by kernel_rfl
theorem run39 {args vs : List Value} (ha : entryArgs Tryd.prog Tryd.f39 args = some vs) (ho : Ones vs) {H : Heap} {O : Own} {Q : Value → Heap → Own → Prop} (h : (t39 vs).den Tryd.prog Q H O) : Triple Tryd.prog 39 args H O Q :=
  triple_run mixed (mkOpts_ok okL_ok _ _ _) Tryd.func39 t39_eq ha ho h

/- internal/stringslite.Index -/
def t46 (vs : List Value) : Tree :=
  .pure [] .slen [(g vs 1)] fun v0 =>
  .pure [] (.bin .eql .int) [v0, (.int .i64 0)] fun v1 =>
  .chk (.eqV v1 v1) <|
  .chk (.eqV v1 v1) <|
  .pure [] (.bin .eql .str) [(g vs 1), (g vs 0)] fun v2 =>
  .chk (.eqV v1 v1) <|
  .pure [] .pick [v1, (.bool true), v2] fun v3 =>
  .br v3 (
    .ret (.int .i64 0) []) (
    .pure [] (.bin .eql .int) [v0, (.int .i64 1)] fun v4 =>
    .br v4 (
      .pure [] .sidx [(g vs 1), (.int .i64 0)] fun v5 =>
      .call false 49 [(g vs 0), v5] [] [] .one fun l6 _ =>
      .ret (g l6 0) []) (
      .pure [] .slen [(g vs 0)] fun v7 =>
      .pure [] (.bin .geq .int) [v0, v7] fun v8 =>
      .br v8 (
        .ret (.int .i64 (-1)) []) (
        .load [] (.pointer (some ⟨2, 0, none⟩)) 1 fun l9 =>
        .pure [] (.bin .leq .int) [v0, (g l9 0)] fun v10 =>
        .chk (.eqV v10 v10) <|
        .pure [] .slen [(g vs 0)] fun v11 =>
        .chk (.eqV v10 v10) <|
        .pure [] (.bin .leq .int) [v11, (.int .i64 64)] fun v12 =>
        .chk (.eqV v10 v10) <|
        .pure [] .pick [v10, v12, (.bool false)] fun v13 =>
        .br v13 (
          .prim (.intr 50) [(g vs 0), (g vs 1)] [] [] .one fun l14 _ =>
          .ret (g l14 0) []) (
          .pure [] .sidx [(g vs 1), (.int .i64 0)] fun v15 =>
          .pure [] .sidx [(g vs 1), (.int .i64 1)] fun v16 =>
          .pure [] .slen [(g vs 0)] fun v17 =>
          .pure [] (.bin .sub .int) [v17, v0] fun v18 =>
          .pure [] (.bin .add .int) [v18, (.int .i64 1)] fun v19 =>
          .loop 43 15 [(.int .i64 0), (.int .i64 0)] fun C43 l20 =>
            .pure [] (.bin .lss .int) [(g l20 0), v19] fun v21 =>
            .br v21 (
              .pure [] .sidx [(g vs 0), (g l20 0)] fun v22 =>
              .pure [] (.bin .neq .int) [v22, v15] fun v23 =>
              .br v23 (
                .pure [] (.bin .add .int) [(g l20 0), (.int .i64 1)] fun v24 =>
                .pure [] (.sslc true true) [(g vs 0), v24, v19] fun v25 =>
                .call false 49 [v25, v15] [] [] .one fun l26 _ =>
                .pure [] (.bin .lss .int) [(g l26 0), (.int .i64 0)] fun v27 =>
                .br v27 (
                  .ret (.int .i64 (-1)) []) (
                  .pure [] (.bin .add .int) [(g l26 0), (.int .i64 1)] fun v28 =>
                  .pure [] (.bin .add .int) [(g l20 0), v28] fun v29 =>
                  .pure [] (.bin .add .int) [v29, (.int .i64 1)] fun v30 =>
                  .pure [] .sidx [(g vs 0), v30] fun v31 =>
                  .pure [] (.bin .eql .int) [v31, v16] fun v32 =>
                  .chk (.eqV v32 v32) <|
                  .chk (.eqV v32 v32) <|
                  .pure [] (.bin .add .int) [v29, v0] fun v33 =>
                  .chk (.eqV v32 v32) <|
                  .chk (.eqV v32 v32) <|
                  .chk (.eqV v32 v32) <|
                  .pure [(v32, true)] (.sslc true true) [(g vs 0), v29, v33] fun v34 =>
                  .chk (.eqV v32 v32) <|
                  .chk (.eqV v32 v32) <|
                  .pure [] (.bin .eql .str) [v34, (g vs 1)] fun v35 =>
                  .chk (.eqV v32 v32) <|
                  .pure [] .pick [v32, v35, (.bool false)] fun v36 =>
                  .br v36 (
                    .ret v29 []) (
                    .pure [] (.bin .add .int) [v29, (.int .i64 1)] fun v37 =>
                    .pure [] (.bin .add .int) [(g l20 1), (.int .i64 1)] fun v38 =>
                    .load [] (.pointer (some ⟨2, 0, none⟩)) 1 fun l39 =>
                    .pure [] (.bin .leq .int) [v0, (g l39 0)] fun v40 =>
                    .br v40 (
                      .call false 51 [v37] [] [] .one fun l41 _ =>
                      .pure [] (.bin .gtr .int) [v38, (g l41 0)] fun v42 =>
                      .br v42 (
                        .pure [] (.sslc true false) [(g vs 0), v37] fun v43 =>
                        .prim (.intr 50) [v43, (g vs 1)] [] [] .one fun l44 _ =>
                        .pure [] (.bin .geq .int) [(g l44 0), (.int .i64 0)] fun v45 =>
                        .br v45 (
                          .pure [] (.bin .add .int) [(g l44 0), v37] fun v46 =>
                          .ret v46 []) (
                          .ret (.int .i64 (-1)) [])) (
                        .load [] (.pointer (some ⟨2, 0, none⟩)) 1 fun l47 =>
                        .pure [] (.bin .gtr .int) [v0, (g l47 0)] fun v48 =>
                        .chk (.eqV v48 v48) <|
                        .pure [(v48, true)] (.bin .shr .int) [v37, (.int .u64 4)] fun v49 =>
                        .chk (.eqV v48 v48) <|
                        .pure [] (.bin .add .int) [(.int .i64 4), v49] fun v50 =>
                        .chk (.eqV v48 v48) <|
                        .chk (.eqV v48 v48) <|
                        .pure [] (.bin .geq .int) [v38, v50] fun v51 =>
                        .chk (.eqV v48 v48) <|
                        .pure [] .pick [v48, v51, (.bool false)] fun v52 =>
                        .chk (.eqV v52 v52) <|
                        .chk (.eqV v52 v52) <|
                        .pure [] (.bin .lss .int) [v37, v19] fun v53 =>
                        .chk (.eqV v52 v52) <|
                        .pure [] .pick [v52, v53, (.bool false)] fun v54 =>
                        .br v54 (
                          .pure [] (.sslc true false) [(g vs 0), v37] fun v55 =>
                          .call false 52 [v55, (g vs 1)] [] [] .one fun l56 _ =>
                          .pure [] (.bin .lss .int) [(g l56 0), (.int .i64 0)] fun v57 =>
                          .br v57 (
                            .ret (.int .i64 (-1)) []) (
                            .pure [] (.bin .add .int) [v37, (g l56 0)] fun v58 =>
                            .ret v58 [])) (
                          .cont 43 C43 [v37, v38] [([(g vs 0)], [(g vs 0)]), ([(g vs 1)], [(g vs 1)]), ([v0], [v0]), ([v15], [v15]), ([v16], [v16]), ([v19], [v19])]))) (
                      .load [] (.pointer (some ⟨2, 0, none⟩)) 1 fun l59 =>
                      .pure [] (.bin .gtr .int) [v0, (g l59 0)] fun v60 =>
                      .chk (.eqV v60 v60) <|
                      .pure [(v60, true)] (.bin .shr .int) [v37, (.int .u64 4)] fun v61 =>
                      .chk (.eqV v60 v60) <|
                      .pure [] (.bin .add .int) [(.int .i64 4), v61] fun v62 =>
                      .chk (.eqV v60 v60) <|
                      .chk (.eqV v60 v60) <|
                      .pure [] (.bin .geq .int) [v38, v62] fun v63 =>
                      .chk (.eqV v60 v60) <|
                      .pure [] .pick [v60, v63, (.bool false)] fun v64 =>
                      .chk (.eqV v64 v64) <|
                      .chk (.eqV v64 v64) <|
                      .pure [] (.bin .lss .int) [v37, v19] fun v65 =>
                      .chk (.eqV v64 v64) <|
                      .pure [] .pick [v64, v65, (.bool false)] fun v66 =>
                      .br v66 (
                        .pure [] (.sslc true false) [(g vs 0), v37] fun v67 =>
                        .call false 52 [v67, (g vs 1)] [] [] .one fun l68 _ =>
                        .pure [] (.bin .lss .int) [(g l68 0), (.int .i64 0)] fun v69 =>
                        .br v69 (
                          .ret (.int .i64 (-1)) []) (
                          .pure [] (.bin .add .int) [v37, (g l68 0)] fun v70 =>
                          .ret v70 [])) (
                        .cont 43 C43 [v37, v38] [([(g vs 0)], [(g vs 0)]), ([(g vs 1)], [(g vs 1)]), ([v0], [v0]), ([v15], [v15]), ([v16], [v16]), ([v19], [v19])]))))) (
                .pure [] (.bin .add .int) [(g l20 0), (.int .i64 1)] fun v71 =>
                .pure [] .sidx [(g vs 0), v71] fun v72 =>
                .pure [] (.bin .eql .int) [v72, v16] fun v73 =>
                .chk (.eqV v73 v73) <|
                .chk (.eqV v73 v73) <|
                .pure [] (.bin .add .int) [(g l20 0), v0] fun v74 =>
                .chk (.eqV v73 v73) <|
                .chk (.eqV v73 v73) <|
                .chk (.eqV v73 v73) <|
                .pure [(v73, true)] (.sslc true true) [(g vs 0), (g l20 0), v74] fun v75 =>
                .chk (.eqV v73 v73) <|
                .chk (.eqV v73 v73) <|
                .pure [] (.bin .eql .str) [v75, (g vs 1)] fun v76 =>
                .chk (.eqV v73 v73) <|
                .pure [] .pick [v73, v76, (.bool false)] fun v77 =>
                .br v77 (
                  .ret (g l20 0) []) (
                  .pure [] (.bin .add .int) [(g l20 0), (.int .i64 1)] fun v78 =>
                  .pure [] (.bin .add .int) [(g l20 1), (.int .i64 1)] fun v79 =>
                  .load [] (.pointer (some ⟨2, 0, none⟩)) 1 fun l80 =>
                  .pure [] (.bin .leq .int) [v0, (g l80 0)] fun v81 =>
                  .br v81 (
                    .call false 51 [v78] [] [] .one fun l82 _ =>
                    .pure [] (.bin .gtr .int) [v79, (g l82 0)] fun v83 =>
                    .br v83 (
                      .pure [] (.sslc true false) [(g vs 0), v78] fun v84 =>
                      .prim (.intr 50) [v84, (g vs 1)] [] [] .one fun l85 _ =>
                      .pure [] (.bin .geq .int) [(g l85 0), (.int .i64 0)] fun v86 =>
                      .br v86 (
                        .pure [] (.bin .add .int) [(g l85 0), v78] fun v87 =>
                        .ret v87 []) (
                        .ret (.int .i64 (-1)) [])) (
                      .load [] (.pointer (some ⟨2, 0, none⟩)) 1 fun l88 =>
                      .pure [] (.bin .gtr .int) [v0, (g l88 0)] fun v89 =>
                      .chk (.eqV v89 v89) <|
                      .pure [(v89, true)] (.bin .shr .int) [v78, (.int .u64 4)] fun v90 =>
                      .chk (.eqV v89 v89) <|
                      .pure [] (.bin .add .int) [(.int .i64 4), v90] fun v91 =>
                      .chk (.eqV v89 v89) <|
                      .chk (.eqV v89 v89) <|
                      .pure [] (.bin .geq .int) [v79, v91] fun v92 =>
                      .chk (.eqV v89 v89) <|
                      .pure [] .pick [v89, v92, (.bool false)] fun v93 =>
                      .chk (.eqV v93 v93) <|
                      .chk (.eqV v93 v93) <|
                      .pure [] (.bin .lss .int) [v78, v19] fun v94 =>
                      .chk (.eqV v93 v93) <|
                      .pure [] .pick [v93, v94, (.bool false)] fun v95 =>
                      .br v95 (
                        .pure [] (.sslc true false) [(g vs 0), v78] fun v96 =>
                        .call false 52 [v96, (g vs 1)] [] [] .one fun l97 _ =>
                        .pure [] (.bin .lss .int) [(g l97 0), (.int .i64 0)] fun v98 =>
                        .br v98 (
                          .ret (.int .i64 (-1)) []) (
                          .pure [] (.bin .add .int) [v78, (g l97 0)] fun v99 =>
                          .ret v99 [])) (
                        .cont 43 C43 [v78, v79] [([(g vs 0)], [(g vs 0)]), ([(g vs 1)], [(g vs 1)]), ([v0], [v0]), ([v15], [v15]), ([v16], [v16]), ([v19], [v19])]))) (
                    .load [] (.pointer (some ⟨2, 0, none⟩)) 1 fun l100 =>
                    .pure [] (.bin .gtr .int) [v0, (g l100 0)] fun v101 =>
                    .chk (.eqV v101 v101) <|
                    .pure [(v101, true)] (.bin .shr .int) [v78, (.int .u64 4)] fun v102 =>
                    .chk (.eqV v101 v101) <|
                    .pure [] (.bin .add .int) [(.int .i64 4), v102] fun v103 =>
                    .chk (.eqV v101 v101) <|
                    .chk (.eqV v101 v101) <|
                    .pure [] (.bin .geq .int) [v79, v103] fun v104 =>
                    .chk (.eqV v101 v101) <|
                    .pure [] .pick [v101, v104, (.bool false)] fun v105 =>
                    .chk (.eqV v105 v105) <|
                    .chk (.eqV v105 v105) <|
                    .pure [] (.bin .lss .int) [v78, v19] fun v106 =>
                    .chk (.eqV v105 v105) <|
                    .pure [] .pick [v105, v106, (.bool false)] fun v107 =>
                    .br v107 (
                      .pure [] (.sslc true false) [(g vs 0), v78] fun v108 =>
                      .call false 52 [v108, (g vs 1)] [] [] .one fun l109 _ =>
                      .pure [] (.bin .lss .int) [(g l109 0), (.int .i64 0)] fun v110 =>
                      .br v110 (
                        .ret (.int .i64 (-1)) []) (
                        .pure [] (.bin .add .int) [v78, (g l109 0)] fun v111 =>
                        .ret v111 [])) (
                      .cont 43 C43 [v78, v79] [([(g vs 0)], [(g vs 0)]), ([(g vs 1)], [(g vs 1)]), ([v0], [v0]), ([v15], [v15]), ([v16], [v16]), ([v19], [v19])]))))) (
              .ret (.int .i64 (-1)) [])))))
theorem t46_eq (vs : List Value) : sxFun Tryd.prog Tryd.f46 (mkOpts okL [(44, [5, 6, 7, 8])] [(15, .inv [8, 10] [0, 1, 5, 6, 7, 9] [])] []) vs = t46 vs := by kernel_rfl
theorem run46 {args vs : List Value} (ha : entryArgs Tryd.prog Tryd.f46 args = some vs) (ho : Ones vs) {H : Heap} {O : Own} {Q : Value → Heap → Own → Prop} (h : (t46 vs).den Tryd.prog Q H O) : Triple Tryd.prog 46 args H O Q :=
  triple_run mixed (mkOpts_ok okL_ok _ _ _) Tryd.func46 t46_eq ha ho h

/- internal/stringslite.IndexByte -/
def t49 (vs : List Value) : Tree :=
  .prim (.intr 53) [(g vs 0), (g vs 1)] [] [] .one fun l0 _ =>
  .ret (g l0 0) []
theorem t49_eq (vs : List Value) : sxFun Tryd.prog Tryd.f49 (mkOpts okL [(44, [5, 6, 7, 8])] [] []) vs = t49 vs := by kernel_rfl
theorem run49 {args vs : List Value} (ha : entryArgs Tryd.prog Tryd.f49 args = some vs) (ho : Ones vs) {H : Heap} {O : Own} {Q : Value → Heap → Own → Prop} (h : (t49 vs).den Tryd.prog Q H O) : Triple Tryd.prog 49 args H O Q :=
  triple_run mixed (mkOpts_ok okL_ok _ _ _) Tryd.func49 t49_eq ha ho h

end Go.Proofs.YtafnobmndgjeaaaDoor
