/- The trees of the functions of this seat: printed by a tool of mine; each by the kernel's reckoning equal to the evaluator's. -/
import Derived.Test.YtjaegdkkiefchaaDoorFw2
import Derived.Test.YtjaegdkkiefchaaDoorProg
import Derived.KernelRfl
namespace Go.Proofs.YtjaegdkkiefchaaDoor
open Go Go.Sx
set_option maxRecDepth 100000
noncomputable abbrev PP : Program := Tryd.prog
theorem mixed : PP.follows .mixedOrders = true := by kernel_rfl
def okL : List Nat := [2, 3, 4, 5, 6, 7, 8, 9, 10, 11, 12, 13, 14, 15, 16, 17, 18, 19, 20, 21, 22, 23, 24, 25, 26, 27, 28, 29, 30, 31, 32, 33, 34, 35, 36, 37, 38, 39, 40, 41, 42, 43, 44, 45, 46, 47, 48, 49, 50, 51, 52, 53, 54, 55, 56, 57, 58, 59, 60, 61, 62, 63, 64, 65, 66, 67, 68, 69, 70, 72, 73, 74, 75, 76, 77, 78, 79, 80, 81, 82, 83, 84, 85, 86, 87, 88, 89, 90, 91, 92, 93, 94, 95, 96, 117]
theorem okL_ok : okL.all (okFnB PP) = true := by kernel_rfl

abbrev F_zeitnotlaw15_BoardNews : FuncId := 3
/- zeitnot/zeitnotlaw15.BoardNews -/
def T_zeitnotlaw15_BoardNews (vs : List Value) : Tree :=
  .pure [] .len [(g vs 1)] fun v0 =>
  .pure [] (.bin .gtr .int) [v0, (.int .i64 30)] fun v1 =>
  .chk (.eqV v1 v1) <|
  .pure [] .len [(g vs 2)] fun v2 =>
  .chk (.eqV v1 v1) <|
  .pure [] (.bin .gtr .int) [v2, (.int .i64 30)] fun v3 =>
  .chk (.eqV v1 v1) <|
  .pure [] .pick [v1, (.bool true), v3] fun v4 =>
  .br v4 (
    .call false 4 [] [] [] .one fun l5 _ =>
    .ret (g l5 0) []) (
    .call false 5 [(g vs 0), (.agg #[(g vs 1), (g vs 2)])] [] [] (.tup [some 38, none]) fun l6 _ =>
    .newbox fun r0 =>
    .chk (.eqN r0 r0) <|
    .call false 6 [(g vs 0), (.agg #[(g vs 1), (g vs 2)])] [] [] (.tup [some 38, none]) fun l7 _ =>
    .newbox fun r1 =>
    .chk (.eqN r1 r1) <|
    .chk (.eqN r0 r0) <|
    .chk (.eqN r1 r1) <|
    .call false 7 [(.agg #[(g l6 0), (g l6 1), (g l6 2), (g l6 3), (g l6 4), (g l6 5), (g l6 6), (g l6 7), (g l6 8), (g l6 9), (g l6 10), (g l6 11), (g l6 12), (g l6 13), (g l6 14), (g l6 15), (g l6 16), (g l6 17), (g l6 18), (g l6 19), (g l6 20), (g l6 21), (g l6 22), (g l6 23), (g l6 24), (g l6 25), (g l6 26), (g l6 27), (g l6 28), (g l6 29), (g l6 30), (g l6 31), (g l6 32), (g l6 33), (g l6 34), (g l6 35), (g l6 36), (g l6 37)]), (.agg #[(g l7 0), (g l7 1), (g l7 2), (g l7 3), (g l7 4), (g l7 5), (g l7 6), (g l7 7), (g l7 8), (g l7 9), (g l7 10), (g l7 11), (g l7 12), (g l7 13), (g l7 14), (g l7 15), (g l7 16), (g l7 17), (g l7 18), (g l7 19), (g l7 20), (g l7 21), (g l7 22), (g l7 23), (g l7 24), (g l7 25), (g l7 26), (g l7 27), (g l7 28), (g l7 29), (g l7 30), (g l7 31), (g l7 32), (g l7 33), (g l7 34), (g l7 35), (g l7 36), (g l7 37)])] [] [] .one fun l8 _ =>
    .chk (.eqV (g l8 0) (g l8 0)) <|
    .chk (.eqV (g l8 0) (g l8 0)) <|
    .pure [] (.bin .eql .int) [(g l6 38), (g l7 38)] fun v9 =>
    .chk (.eqV (g l8 0) (g l8 0)) <|
    .pure [] .pick [(g l8 0), v9, (.bool false)] fun v10 =>
    .br v10 (
      .call false 4 [] [] [] .one fun l11 _ =>
      .ret (g l11 0) []) (
      .ret (.bool false) []))
theorem T_zeitnotlaw15_BoardNews_eq (vs : List Value) : sxFun PP Tryd.f3 (mkOpts okL [(28, [5, 6, 7, 8])] [] []) vs = T_zeitnotlaw15_BoardNews vs := by kernel_rfl
theorem run_zeitnotlaw15_BoardNews {args vs : List Value} (ha : entryArgs PP Tryd.f3 args = some vs) (ho : Ones vs) {H : Heap} {O : Own} {Q : Value → Heap → Own → Prop} (h : (T_zeitnotlaw15_BoardNews vs).den PP Q H O) : Triple PP F_zeitnotlaw15_BoardNews args H O Q :=
  triple_run mixed (mkOpts_ok okL_ok _ _ _) Tryd.func3 T_zeitnotlaw15_BoardNews_eq ha ho h

abbrev F_zeitnotlaw15_known : FuncId := 4
/- zeitnot/zeitnotlaw15.known: STUCK [2014] -/

abbrev F_board_New : FuncId := 5
/- zeitnot/board.New -/
def T_board_New (vs : List Value) : Tree :=
  .newbox fun r0 =>
  .newbox fun r1 =>
  .call false 18 [(g vs 0), (.int .i64 1), (.int .i64 9999)] [] [] .one fun l0 _ =>
  .pure [] .not [(g l0 0)] fun v1 =>
  .chk (.eqN r0 r0) <|
  .chk (.eqV v1 v1) <|
  .chk (.eqV v1 v1) <|
  .pure [] .len [(g vs 1)] fun v2 =>
  .chk (.eqN r0 r0) <|
  .chk (.eqV v1 v1) <|
  .chk (.eqV v1 v1) <|
  .pure [] .len [(g vs 2)] fun v3 =>
  .chk (.eqV v1 v1) <|
  .chk (.eqV v1 v1) <|
  .pure [] (.bin .add .int) [v2, v3] fun v4 =>
  .chk (.eqV v1 v1) <|
  .pure [] (.bin .gtr .int) [v4, (.int .i64 500)] fun v5 =>
  .chk (.eqV v1 v1) <|
  .pure [] .pick [v1, (.bool true), v5] fun v6 =>
  .br v6 (
    .chk (.eqN r1 r1) <|
    .chk (.eqN r1 r1) <|
    .ret (.tuple #[(.agg #[(.slice none 0 0), (.int .i64 0), (.int .i64 0), (.int .i64 0), (.int .i64 0), (.int .i64 0), (.slice none 0 0), (.slice none 0 0), (.slice none 0 0), (.slice none 0 0), (.bool false), (.bool false), (.bool false), (.int .i64 0), (.int .i64 0), (.int .i64 0), (.int .i64 0), (.int .i64 0), (.int .i64 0), (.int .i64 0), (.slice none 0 0), (.slice none 0 0), (.slice none 0 0), (.slice none 0 0), (.bool false), (.bool false), (.bool false), (.int .i64 0), (.int .i64 0), (.slice none 0 0), (.slice none 0 0), (.slice none 0 0), (.slice none 0 0), (.int .i64 0), (.int .i64 0), (.int .i64 0), (.int .i64 0), (.int .i64 0)]), (.int .i64 2)]) []) (
    .newbox fun r2 =>
    .chk (.eqN r2 r2) <|
    .chk (.eqN r0 r0) <|
    .chk (.eqN r2 r2) <|
    .pure [] .len [(g vs 1)] fun v7 =>
    .loop 38 10 [(.int .i64 0), (.slice none 0 0), (.slice none 0 0), (.slice none 0 0)] fun C38 l8 =>
      .pure [] (.bin .lss .int) [(g l8 0), v7] fun v9 =>
      .br v9 (
        .pure [] (.idx 1) [(g vs 1), (g l8 0)] fun v10 =>
        .load [] v10 1 fun l11 =>
        .call false 18 [(g l11 0), (.int .i64 0), (.int .i64 399)] [] [] .one fun l12 _ =>
        .pure [] .not [(g l12 0)] fun v13 =>
        .br v13 (
          .chk (.eqN r1 r1) <|
          .chk (.eqN r1 r1) <|
          .ret (.tuple #[(.agg #[(.slice none 0 0), (.int .i64 0), (.int .i64 0), (.int .i64 0), (.int .i64 0), (.int .i64 0), (.slice none 0 0), (.slice none 0 0), (.slice none 0 0), (.slice none 0 0), (.bool false), (.bool false), (.bool false), (.int .i64 0), (.int .i64 0), (.int .i64 0), (.int .i64 0), (.int .i64 0), (.int .i64 0), (.int .i64 0), (.slice none 0 0), (.slice none 0 0), (.slice none 0 0), (.slice none 0 0), (.bool false), (.bool false), (.bool false), (.int .i64 0), (.int .i64 0), (.slice none 0 0), (.slice none 0 0), (.slice none 0 0), (.slice none 0 0), (.int .i64 0), (.int .i64 0), (.int .i64 0), (.int .i64 0), (.int .i64 0)]), (.int .i64 2)]) []) (
          .chk (.eqN r2 r2) <|
          .pure [] .len [(g l8 1)] fun v14 =>
          .pure [] (.bin .add .int) [v14, (.int .i64 1)] fun v15 =>
          .chk (.eqN r2 r2) <|
          .call true 19 [v15, (g l11 0), (.int .i64 0)] [] [] (.agg 12) fun l16 _ =>
          .newbox fun r3 =>
          .prim (.bi .append #[24, 24] 24) [(g l8 1), (.slice (some ⟨r3, 0, none⟩) 1 1)] [⟨r3, 46, [(g l16 0), (g l16 1), (g l16 2), (g l16 3), (g l16 4), (g l16 5), (g l16 6), (g l16 7), (g l16 8), (g l16 9), (g l16 10), (g l16 11)]⟩] [] .one fun l17 _ =>
          .chk (.eqN r2 r2) <|
          .chk (.eqN r2 r2) <|
          .newbox fun r4 =>
          .prim (.bi .append #[22, 22] 22) [(g l8 2), (.slice (some ⟨r4, 0, none⟩) 1 1)] [⟨r4, 3, [v15]⟩] [] .one fun l18 _ =>
          .chk (.eqN r2 r2) <|
          .pure [] (.bin .add .int) [(g l8 0), (.int .i64 1)] fun v19 =>
          .cont 38 C38 [v19, (g l17 0), (g l18 0), (g l8 3)] [E [(g vs 0)], E [(.pointer (some ⟨r1, 0, none⟩))], E [(.pointer (some ⟨r2, 0, none⟩))], E [(.int .i64 0)], E [(.pointer (some ⟨r2, 1, none⟩))], E [(g vs 1), (g vs 2)], E [(.int .i64 0)], E [(g vs 1)], E [v7], E [(.pointer (some ⟨r1, 0, none⟩)), (.slice none 0 0), (.int .i64 0), (.int .i64 0), (.int .i64 0), (.int .i64 0), (.int .i64 0), (.slice none 0 0), (.slice none 0 0), (.slice none 0 0), (.slice none 0 0), (.bool false), (.bool false), (.bool false), (.int .i64 0), (.int .i64 0), (.int .i64 0), (.int .i64 0), (.int .i64 0), (.int .i64 0), (.int .i64 0), (.slice none 0 0), (.slice none 0 0), (.slice none 0 0), (.slice none 0 0), (.bool false), (.bool false), (.bool false), (.int .i64 0), (.int .i64 0), (.slice none 0 0), (.slice none 0 0), (.slice none 0 0), (.slice none 0 0), (.int .i64 0), (.int .i64 0), (.int .i64 0), (.int .i64 0), (.int .i64 0)], E [(.pointer (some ⟨r2, 0, none⟩)), (.tuple #[]), (g vs 0), (.int .i64 0), (.int .i64 0), (.int .i64 0), (.int .i64 0), (.tuple #[]), (.slice none 0 0), (.slice none 0 0), (.slice none 0 0), (.bool false), (.bool false), (.bool false), (.int .i64 0), (.int .i64 0), (.int .i64 0), (.int .i64 0), (.int .i64 0), (.int .i64 0), (.int .i64 0), (.tuple #[]), (.slice none 0 0), (.slice none 0 0), (.slice none 0 0), (.bool false), (.bool false), (.bool false), (.int .i64 0), (.int .i64 0), (.slice none 0 0), (.slice none 0 0), (.slice none 0 0), (.slice none 0 0), (.int .i64 0), (.int .i64 0), (.int .i64 0), (.int .i64 (-1)), (.int .i64 0)]])) (
        .chk (.eqN r2 r2) <|
        .pure [] .len [(g vs 2)] fun v20 =>
        .loop 59 10 [(.int .i64 0), (g l8 1), (g l8 2), (g l8 3)] fun C59 l21 =>
          .pure [] (.bin .lss .int) [(g l21 0), v20] fun v22 =>
          .br v22 (
            .pure [] (.idx 1) [(g vs 2), (g l21 0)] fun v23 =>
            .load [] v23 1 fun l24 =>
            .call false 18 [(g l24 0), (.int .i64 0), (.int .i64 399)] [] [] .one fun l25 _ =>
            .pure [] .not [(g l25 0)] fun v26 =>
            .br v26 (
              .chk (.eqN r1 r1) <|
              .chk (.eqN r1 r1) <|
              .ret (.tuple #[(.agg #[(.slice none 0 0), (.int .i64 0), (.int .i64 0), (.int .i64 0), (.int .i64 0), (.int .i64 0), (.slice none 0 0), (.slice none 0 0), (.slice none 0 0), (.slice none 0 0), (.bool false), (.bool false), (.bool false), (.int .i64 0), (.int .i64 0), (.int .i64 0), (.int .i64 0), (.int .i64 0), (.int .i64 0), (.int .i64 0), (.slice none 0 0), (.slice none 0 0), (.slice none 0 0), (.slice none 0 0), (.bool false), (.bool false), (.bool false), (.int .i64 0), (.int .i64 0), (.slice none 0 0), (.slice none 0 0), (.slice none 0 0), (.slice none 0 0), (.int .i64 0), (.int .i64 0), (.int .i64 0), (.int .i64 0), (.int .i64 0)]), (.int .i64 2)]) []) (
              .chk (.eqN r2 r2) <|
              .pure [] .len [(g l21 1)] fun v27 =>
              .pure [] (.bin .add .int) [v27, (.int .i64 1)] fun v28 =>
              .chk (.eqN r2 r2) <|
              .call true 19 [v28, (g l24 0), (.int .i64 1)] [] [] (.agg 12) fun l29 _ =>
              .newbox fun r5 =>
              .prim (.bi .append #[24, 24] 24) [(g l21 1), (.slice (some ⟨r5, 0, none⟩) 1 1)] [⟨r5, 46, [(g l29 0), (g l29 1), (g l29 2), (g l29 3), (g l29 4), (g l29 5), (g l29 6), (g l29 7), (g l29 8), (g l29 9), (g l29 10), (g l29 11)]⟩] [] .one fun l30 _ =>
              .chk (.eqN r2 r2) <|
              .chk (.eqN r2 r2) <|
              .newbox fun r6 =>
              .prim (.bi .append #[22, 22] 22) [(g l21 3), (.slice (some ⟨r6, 0, none⟩) 1 1)] [⟨r6, 3, [v28]⟩] [] .one fun l31 _ =>
              .chk (.eqN r2 r2) <|
              .pure [] (.bin .add .int) [(g l21 0), (.int .i64 1)] fun v32 =>
              .cont 59 C59 [v32, (g l30 0), (g l21 2), (g l31 0)] [E [(g vs 0)], E [(.pointer (some ⟨r1, 0, none⟩))], E [(.pointer (some ⟨r2, 0, none⟩))], E [(.int .i64 1)], E [(.pointer (some ⟨r2, 15, none⟩))], E [(g vs 1), (g vs 2)], E [(.int .i64 1)], E [(g vs 2)], E [v20], E [(.pointer (some ⟨r1, 0, none⟩)), (.slice none 0 0), (.int .i64 0), (.int .i64 0), (.int .i64 0), (.int .i64 0), (.int .i64 0), (.slice none 0 0), (.slice none 0 0), (.slice none 0 0), (.slice none 0 0), (.bool false), (.bool false), (.bool false), (.int .i64 0), (.int .i64 0), (.int .i64 0), (.int .i64 0), (.int .i64 0), (.int .i64 0), (.int .i64 0), (.slice none 0 0), (.slice none 0 0), (.slice none 0 0), (.slice none 0 0), (.bool false), (.bool false), (.bool false), (.int .i64 0), (.int .i64 0), (.slice none 0 0), (.slice none 0 0), (.slice none 0 0), (.slice none 0 0), (.int .i64 0), (.int .i64 0), (.int .i64 0), (.int .i64 0), (.int .i64 0)], E [(.pointer (some ⟨r2, 0, none⟩)), (.tuple #[]), (g vs 0), (.int .i64 0), (.int .i64 0), (.int .i64 0), (.int .i64 0), (.tuple #[]), (.slice none 0 0), (.slice none 0 0), (.slice none 0 0), (.bool false), (.bool false), (.bool false), (.int .i64 0), (.int .i64 0), (g vs 0), (.int .i64 0), (.int .i64 0), (.int .i64 0), (.int .i64 0), (.tuple #[]), (.slice none 0 0), (.slice none 0 0), (.slice none 0 0), (.bool false), (.bool false), (.bool false), (.int .i64 0), (.int .i64 0), (.slice none 0 0), (.slice none 0 0), (.slice none 0 0), (.slice none 0 0), (.int .i64 0), (.int .i64 0), (.int .i64 0), (.int .i64 (-1)), (.int .i64 0)]])) (
            .chk (.eqN r2 r2) <|
            .chk (.eqN r1 r1) <|
            .chk (.eqN r1 r1) <|
            .ret (.tuple #[(.agg #[(g l21 1), (g vs 0), (.int .i64 0), (.int .i64 0), (.int .i64 0), (.int .i64 0), (g l21 2), (.slice none 0 0), (.slice none 0 0), (.slice none 0 0), (.bool false), (.bool false), (.bool false), (.int .i64 0), (.int .i64 0), (g vs 0), (.int .i64 0), (.int .i64 0), (.int .i64 0), (.int .i64 0), (g l21 3), (.slice none 0 0), (.slice none 0 0), (.slice none 0 0), (.bool false), (.bool false), (.bool false), (.int .i64 0), (.int .i64 0), (.slice none 0 0), (.slice none 0 0), (.slice none 0 0), (.slice none 0 0), (.int .i64 0), (.int .i64 0), (.int .i64 0), (.int .i64 (-1)), (.int .i64 0)]), (.int .i64 0)]) [])))
theorem T_board_New_eq (vs : List Value) : sxFun PP Tryd.f5 (mkOpts okL [(28, [5, 6, 7, 8])] [(5, .unroll 3), (10, .inv [42] [0, 4, 6, 7, 9, 28, 29, 40, 41] [(4, []), (6, [0, 6, 20])])] []) vs = T_board_New vs := by kernel_rfl
theorem run_board_New {args vs : List Value} (ha : entryArgs PP Tryd.f5 args = some vs) (ho : Ones vs) {H : Heap} {O : Own} {Q : Value → Heap → Own → Prop} (h : (T_board_New vs).den PP Q H O) : Triple PP F_board_New args H O Q :=
  triple_run mixed (mkOpts_ok okL_ok _ _ _) Tryd.func5 T_board_New_eq ha ho h

abbrev F_zeitnotref15_New : FuncId := 6
/- zeitnot/zeitnotref15.New -/
def T_zeitnotref15_New (vs : List Value) : Tree :=
  .newbox fun r0 =>
  .newbox fun r1 =>
  .newbox fun r2 =>
  .chk (.eqN r2 r2) <|
  .pure [] (.bin .lss .int) [(g vs 0), (.int .i64 1)] fun v0 =>
  .chk (.eqV v0 v0) <|
  .pure [] (.bin .gtr .int) [(g vs 0), (.int .i64 9999)] fun v1 =>
  .chk (.eqV v0 v0) <|
  .pure [] .pick [v0, (.bool true), v1] fun v2 =>
  .chk (.eqN r0 r0) <|
  .chk (.eqV v2 v2) <|
  .chk (.eqV v2 v2) <|
  .pure [] .len [(g vs 1)] fun v3 =>
  .chk (.eqN r0 r0) <|
  .chk (.eqV v2 v2) <|
  .chk (.eqV v2 v2) <|
  .pure [] .len [(g vs 2)] fun v4 =>
  .chk (.eqV v2 v2) <|
  .chk (.eqV v2 v2) <|
  .pure [] (.bin .add .int) [v3, v4] fun v5 =>
  .chk (.eqV v2 v2) <|
  .pure [] (.bin .gtr .int) [v5, (.int .i64 500)] fun v6 =>
  .chk (.eqV v2 v2) <|
  .pure [] .pick [v2, (.bool true), v6] fun v7 =>
  .br v7 (
    .chk (.eqN r1 r1) <|
    .chk (.eqN r1 r1) <|
    .ret (.tuple #[(.agg #[(.slice none 0 0), (.int .i64 0), (.int .i64 0), (.int .i64 0), (.int .i64 0), (.int .i64 0), (.slice none 0 0), (.slice none 0 0), (.slice none 0 0), (.slice none 0 0), (.bool false), (.bool false), (.bool false), (.int .i64 0), (.int .i64 0), (.int .i64 0), (.int .i64 0), (.int .i64 0), (.int .i64 0), (.int .i64 0), (.slice none 0 0), (.slice none 0 0), (.slice none 0 0), (.slice none 0 0), (.bool false), (.bool false), (.bool false), (.int .i64 0), (.int .i64 0), (.slice none 0 0), (.slice none 0 0), (.slice none 0 0), (.slice none 0 0), (.int .i64 0), (.int .i64 0), (.int .i64 0), (.int .i64 0), (.int .i64 0)]), (.int .i64 2)]) []) (
    .chk (.eqN r2 r2) <|
    .loop 32 9 [(.int .i64 0), (.slice none 0 0), (.slice none 0 0), (.slice none 0 0)] fun C32 l8 =>
      .chk (.eqN r0 r0) <|
      .pure [] .len [(g vs 1)] fun v9 =>
      .pure [] (.bin .lss .int) [(g l8 0), v9] fun v10 =>
      .br v10 (
        .chk (.eqN r0 r0) <|
        .pure [] (.idx 1) [(g vs 1), (g l8 0)] fun v11 =>
        .load [] v11 1 fun l12 =>
        .pure [] (.bin .lss .int) [(g l12 0), (.int .i64 0)] fun v13 =>
        .chk (.eqV v13 v13) <|
        .chk (.eqN r0 r0) <|
        .chk (.eqV v13 v13) <|
        .chk (.eqV v13 v13) <|
        .chk (.eqV v13 v13) <|
        .pure [(v13, false)] (.idx 1) [(g vs 1), (g l8 0)] fun v14 =>
        .chk (.eqV v13 v13) <|
        .load [(v13, false)] v14 1 fun l15 =>
        .chk (.eqV v13 v13) <|
        .pure [] (.bin .gtr .int) [(g l15 0), (.int .i64 399)] fun v16 =>
        .chk (.eqV v13 v13) <|
        .pure [] .pick [v13, (.bool true), v16] fun v17 =>
        .br v17 (
          .chk (.eqN r1 r1) <|
          .chk (.eqN r1 r1) <|
          .ret (.tuple #[(.agg #[(.slice none 0 0), (.int .i64 0), (.int .i64 0), (.int .i64 0), (.int .i64 0), (.int .i64 0), (.slice none 0 0), (.slice none 0 0), (.slice none 0 0), (.slice none 0 0), (.bool false), (.bool false), (.bool false), (.int .i64 0), (.int .i64 0), (.int .i64 0), (.int .i64 0), (.int .i64 0), (.int .i64 0), (.int .i64 0), (.slice none 0 0), (.slice none 0 0), (.slice none 0 0), (.slice none 0 0), (.bool false), (.bool false), (.bool false), (.int .i64 0), (.int .i64 0), (.slice none 0 0), (.slice none 0 0), (.slice none 0 0), (.slice none 0 0), (.int .i64 0), (.int .i64 0), (.int .i64 0), (.int .i64 0), (.int .i64 0)]), (.int .i64 2)]) []) (
          .chk (.eqN r2 r2) <|
          .pure [] .len [(g l8 1)] fun v18 =>
          .pure [] (.bin .add .int) [v18, (.int .i64 1)] fun v19 =>
          .chk (.eqN r2 r2) <|
          .chk (.eqN r0 r0) <|
          .pure [] (.idx 1) [(g vs 1), (g l8 0)] fun v20 =>
          .load [] v20 1 fun l21 =>
          .newbox fun r3 =>
          .prim (.bi .append #[24, 24] 24) [(g l8 1), (.slice (some ⟨r3, 0, none⟩) 1 1)] [⟨r3, 46, [v19, (g l21 0), (.int .i64 0), (.int .i64 0), (.int .i64 0), (.int .i64 0), (.int .i64 0), (.int .i64 0), (.int .i64 0), (.bool false), (.bool false), (.bool false)]⟩] [] .one fun l22 _ =>
          .chk (.eqN r2 r2) <|
          .chk (.eqN r2 r2) <|
          .newbox fun r4 =>
          .prim (.bi .append #[22, 22] 22) [(g l8 2), (.slice (some ⟨r4, 0, none⟩) 1 1)] [⟨r4, 3, [v19]⟩] [] .one fun l23 _ =>
          .chk (.eqN r2 r2) <|
          .pure [] (.bin .add .int) [(g l8 0), (.int .i64 1)] fun v24 =>
          .cont 32 C32 [v24, (g l22 0), (g l23 0), (g l8 3)] [E [(g vs 0)], E [(.pointer (some ⟨r0, 0, none⟩))], E [(.pointer (some ⟨r1, 0, none⟩))], E [(.pointer (some ⟨r2, 0, none⟩))], E [(.int .i64 0)], E [(.pointer (some ⟨r0, 0, none⟩)), (g vs 1), (g vs 2)], E [(.pointer (some ⟨r1, 0, none⟩)), (.slice none 0 0), (.int .i64 0), (.int .i64 0), (.int .i64 0), (.int .i64 0), (.int .i64 0), (.slice none 0 0), (.slice none 0 0), (.slice none 0 0), (.slice none 0 0), (.bool false), (.bool false), (.bool false), (.int .i64 0), (.int .i64 0), (.int .i64 0), (.int .i64 0), (.int .i64 0), (.int .i64 0), (.int .i64 0), (.slice none 0 0), (.slice none 0 0), (.slice none 0 0), (.slice none 0 0), (.bool false), (.bool false), (.bool false), (.int .i64 0), (.int .i64 0), (.slice none 0 0), (.slice none 0 0), (.slice none 0 0), (.slice none 0 0), (.int .i64 0), (.int .i64 0), (.int .i64 0), (.int .i64 0), (.int .i64 0)], E [(.pointer (some ⟨r2, 0, none⟩)), (.tuple #[]), (g vs 0), (.int .i64 0), (.int .i64 0), (.int .i64 0), (.int .i64 0), (.tuple #[]), (.slice none 0 0), (.slice none 0 0), (.slice none 0 0), (.bool false), (.bool false), (.bool false), (.int .i64 0), (.int .i64 0), (.int .i64 0), (.int .i64 0), (.int .i64 0), (.int .i64 0), (.int .i64 0), (.tuple #[]), (.slice none 0 0), (.slice none 0 0), (.slice none 0 0), (.bool false), (.bool false), (.bool false), (.int .i64 0), (.int .i64 0), (.slice none 0 0), (.slice none 0 0), (.slice none 0 0), (.slice none 0 0), (.int .i64 0), (.int .i64 0), (.int .i64 0), (.int .i64 (-1)), (.int .i64 0)]])) (
        .chk (.eqN r2 r2) <|
        .loop 51 9 [(.int .i64 0), (g l8 1), (g l8 2), (g l8 3)] fun C51 l25 =>
          .chk (.eqN r0 r0) <|
          .pure [] .len [(g vs 2)] fun v26 =>
          .pure [] (.bin .lss .int) [(g l25 0), v26] fun v27 =>
          .br v27 (
            .chk (.eqN r0 r0) <|
            .pure [] (.idx 1) [(g vs 2), (g l25 0)] fun v28 =>
            .load [] v28 1 fun l29 =>
            .pure [] (.bin .lss .int) [(g l29 0), (.int .i64 0)] fun v30 =>
            .chk (.eqV v30 v30) <|
            .chk (.eqN r0 r0) <|
            .chk (.eqV v30 v30) <|
            .chk (.eqV v30 v30) <|
            .chk (.eqV v30 v30) <|
            .pure [(v30, false)] (.idx 1) [(g vs 2), (g l25 0)] fun v31 =>
            .chk (.eqV v30 v30) <|
            .load [(v30, false)] v31 1 fun l32 =>
            .chk (.eqV v30 v30) <|
            .pure [] (.bin .gtr .int) [(g l32 0), (.int .i64 399)] fun v33 =>
            .chk (.eqV v30 v30) <|
            .pure [] .pick [v30, (.bool true), v33] fun v34 =>
            .br v34 (
              .chk (.eqN r1 r1) <|
              .chk (.eqN r1 r1) <|
              .ret (.tuple #[(.agg #[(.slice none 0 0), (.int .i64 0), (.int .i64 0), (.int .i64 0), (.int .i64 0), (.int .i64 0), (.slice none 0 0), (.slice none 0 0), (.slice none 0 0), (.slice none 0 0), (.bool false), (.bool false), (.bool false), (.int .i64 0), (.int .i64 0), (.int .i64 0), (.int .i64 0), (.int .i64 0), (.int .i64 0), (.int .i64 0), (.slice none 0 0), (.slice none 0 0), (.slice none 0 0), (.slice none 0 0), (.bool false), (.bool false), (.bool false), (.int .i64 0), (.int .i64 0), (.slice none 0 0), (.slice none 0 0), (.slice none 0 0), (.slice none 0 0), (.int .i64 0), (.int .i64 0), (.int .i64 0), (.int .i64 0), (.int .i64 0)]), (.int .i64 2)]) []) (
              .chk (.eqN r2 r2) <|
              .pure [] .len [(g l25 1)] fun v35 =>
              .pure [] (.bin .add .int) [v35, (.int .i64 1)] fun v36 =>
              .chk (.eqN r2 r2) <|
              .chk (.eqN r0 r0) <|
              .pure [] (.idx 1) [(g vs 2), (g l25 0)] fun v37 =>
              .load [] v37 1 fun l38 =>
              .newbox fun r5 =>
              .prim (.bi .append #[24, 24] 24) [(g l25 1), (.slice (some ⟨r5, 0, none⟩) 1 1)] [⟨r5, 46, [v36, (g l38 0), (.int .i64 1), (.int .i64 0), (.int .i64 0), (.int .i64 0), (.int .i64 0), (.int .i64 0), (.int .i64 0), (.bool false), (.bool false), (.bool false)]⟩] [] .one fun l39 _ =>
              .chk (.eqN r2 r2) <|
              .chk (.eqN r2 r2) <|
              .newbox fun r6 =>
              .prim (.bi .append #[22, 22] 22) [(g l25 3), (.slice (some ⟨r6, 0, none⟩) 1 1)] [⟨r6, 3, [v36]⟩] [] .one fun l40 _ =>
              .chk (.eqN r2 r2) <|
              .pure [] (.bin .add .int) [(g l25 0), (.int .i64 1)] fun v41 =>
              .cont 51 C51 [v41, (g l39 0), (g l25 2), (g l40 0)] [E [(g vs 0)], E [(.pointer (some ⟨r0, 0, none⟩))], E [(.pointer (some ⟨r1, 0, none⟩))], E [(.pointer (some ⟨r2, 0, none⟩))], E [(.int .i64 1)], E [(.pointer (some ⟨r0, 0, none⟩)), (g vs 1), (g vs 2)], E [(.pointer (some ⟨r1, 0, none⟩)), (.slice none 0 0), (.int .i64 0), (.int .i64 0), (.int .i64 0), (.int .i64 0), (.int .i64 0), (.slice none 0 0), (.slice none 0 0), (.slice none 0 0), (.slice none 0 0), (.bool false), (.bool false), (.bool false), (.int .i64 0), (.int .i64 0), (.int .i64 0), (.int .i64 0), (.int .i64 0), (.int .i64 0), (.int .i64 0), (.slice none 0 0), (.slice none 0 0), (.slice none 0 0), (.slice none 0 0), (.bool false), (.bool false), (.bool false), (.int .i64 0), (.int .i64 0), (.slice none 0 0), (.slice none 0 0), (.slice none 0 0), (.slice none 0 0), (.int .i64 0), (.int .i64 0), (.int .i64 0), (.int .i64 0), (.int .i64 0)], E [(.pointer (some ⟨r2, 0, none⟩)), (.tuple #[]), (g vs 0), (.int .i64 0), (.int .i64 0), (.int .i64 0), (.int .i64 0), (.tuple #[]), (.slice none 0 0), (.slice none 0 0), (.slice none 0 0), (.bool false), (.bool false), (.bool false), (.int .i64 0), (.int .i64 0), (g vs 0), (.int .i64 0), (.int .i64 0), (.int .i64 0), (.int .i64 0), (.tuple #[]), (.slice none 0 0), (.slice none 0 0), (.slice none 0 0), (.bool false), (.bool false), (.bool false), (.int .i64 0), (.int .i64 0), (.slice none 0 0), (.slice none 0 0), (.slice none 0 0), (.slice none 0 0), (.int .i64 0), (.int .i64 0), (.int .i64 0), (.int .i64 (-1)), (.int .i64 0)]])) (
            .chk (.eqN r2 r2) <|
            .chk (.eqN r1 r1) <|
            .chk (.eqN r1 r1) <|
            .ret (.tuple #[(.agg #[(g l25 1), (g vs 0), (.int .i64 0), (.int .i64 0), (.int .i64 0), (.int .i64 0), (g l25 2), (.slice none 0 0), (.slice none 0 0), (.slice none 0 0), (.bool false), (.bool false), (.bool false), (.int .i64 0), (.int .i64 0), (g vs 0), (.int .i64 0), (.int .i64 0), (.int .i64 0), (.int .i64 0), (g l25 3), (.slice none 0 0), (.slice none 0 0), (.slice none 0 0), (.bool false), (.bool false), (.bool false), (.int .i64 0), (.int .i64 0), (.slice none 0 0), (.slice none 0 0), (.slice none 0 0), (.slice none 0 0), (.int .i64 0), (.int .i64 0), (.int .i64 0), (.int .i64 (-1)), (.int .i64 0)]), (.int .i64 0)]) [])))
theorem T_zeitnotref15_New_eq (vs : List Value) : sxFun PP Tryd.f6 (mkOpts okL [(28, [5, 6, 7, 8])] [(5, .unroll 3), (9, .inv [8] [0, 3, 4, 6, 7] [(3, []), (4, []), (6, [0, 6, 20])])] []) vs = T_zeitnotref15_New vs := by kernel_rfl
theorem run_zeitnotref15_New {args vs : List Value} (ha : entryArgs PP Tryd.f6 args = some vs) (ho : Ones vs) {H : Heap} {O : Own} {Q : Value → Heap → Own → Prop} (h : (T_zeitnotref15_New vs).den PP Q H O) : Triple PP F_zeitnotref15_New args H O Q :=
  triple_run mixed (mkOpts_ok okL_ok _ _ _) Tryd.func6 T_zeitnotref15_New_eq ha ho h

abbrev F_zeitnotref15_Same : FuncId := 7
/- zeitnot/zeitnotref15.Same -/
def T_zeitnotref15_Same (vs : List Value) : Tree :=
  .newbox fun r0 =>
  .newbox fun r1 =>
  .chk (.eqN r0 r0) <|
  .pure [] .len [(g vs 0)] fun v0 =>
  .chk (.eqN r1 r1) <|
  .pure [] .len [(g vs 38)] fun v1 =>
  .pure [] (.bin .neq .int) [v0, v1] fun v2 =>
  .br v2 (
    .ret (.bool false) []) (
    .chk (.eqN r0 r0) <|
    .chk (.eqN r1 r1) <|
    .call false 20 [(g vs 29), (g vs 67)] [] [] .one fun l3 _ =>
    .pure [] .not [(g l3 0)] fun v4 =>
    .br v4 (
      .ret (.bool false) []) (
      .chk (.eqN r0 r0) <|
      .chk (.eqN r1 r1) <|
      .call false 20 [(g vs 30), (g vs 68)] [] [] .one fun l5 _ =>
      .pure [] .not [(g l5 0)] fun v6 =>
      .br v6 (
        .ret (.bool false) []) (
        .chk (.eqN r0 r0) <|
        .chk (.eqN r1 r1) <|
        .call false 11 [(g vs 31), (g vs 69)] [] [] .one fun l7 _ =>
        .pure [] .not [(g l7 0)] fun v8 =>
        .chk (.eqN r0 r0) <|
        .chk (.eqV v8 v8) <|
        .chk (.eqV v8 v8) <|
        .pure [] .len [(g vs 32)] fun v9 =>
        .chk (.eqN r1 r1) <|
        .chk (.eqV v8 v8) <|
        .chk (.eqV v8 v8) <|
        .pure [] .len [(g vs 70)] fun v10 =>
        .chk (.eqV v8 v8) <|
        .chk (.eqV v8 v8) <|
        .pure [] (.bin .neq .int) [v9, v10] fun v11 =>
        .chk (.eqV v8 v8) <|
        .pure [] .pick [v8, (.bool true), v11] fun v12 =>
        .chk (.eqN r0 r0) <|
        .chk (.eqV v12 v12) <|
        .chk (.eqN r1 r1) <|
        .chk (.eqV v12 v12) <|
        .chk (.eqV v12 v12) <|
        .chk (.eqV v12 v12) <|
        .pure [] (.bin .neq .int) [(g vs 33), (g vs 71)] fun v13 =>
        .chk (.eqV v12 v12) <|
        .pure [] .pick [v12, (.bool true), v13] fun v14 =>
        .chk (.eqN r0 r0) <|
        .chk (.eqV v14 v14) <|
        .chk (.eqN r1 r1) <|
        .chk (.eqV v14 v14) <|
        .chk (.eqV v14 v14) <|
        .chk (.eqV v14 v14) <|
        .pure [] (.bin .neq .int) [(g vs 34), (g vs 72)] fun v15 =>
        .chk (.eqV v14 v14) <|
        .pure [] .pick [v14, (.bool true), v15] fun v16 =>
        .chk (.eqN r0 r0) <|
        .chk (.eqV v16 v16) <|
        .chk (.eqN r1 r1) <|
        .chk (.eqV v16 v16) <|
        .chk (.eqV v16 v16) <|
        .chk (.eqV v16 v16) <|
        .pure [] (.bin .neq .int) [(g vs 35), (g vs 73)] fun v17 =>
        .chk (.eqV v16 v16) <|
        .pure [] .pick [v16, (.bool true), v17] fun v18 =>
        .chk (.eqN r0 r0) <|
        .chk (.eqV v18 v18) <|
        .chk (.eqN r1 r1) <|
        .chk (.eqV v18 v18) <|
        .chk (.eqV v18 v18) <|
        .chk (.eqV v18 v18) <|
        .pure [] (.bin .neq .int) [(g vs 36), (g vs 74)] fun v19 =>
        .chk (.eqV v18 v18) <|
        .pure [] .pick [v18, (.bool true), v19] fun v20 =>
        .chk (.eqN r0 r0) <|
        .chk (.eqV v20 v20) <|
        .chk (.eqN r1 r1) <|
        .chk (.eqV v20 v20) <|
        .chk (.eqV v20 v20) <|
        .chk (.eqV v20 v20) <|
        .pure [] (.bin .neq .int) [(g vs 37), (g vs 75)] fun v21 =>
        .chk (.eqV v20 v20) <|
        .pure [] .pick [v20, (.bool true), v21] fun v22 =>
        .br v22 (
          .ret (.bool false) []) (
          .loop 79 4 [(.int .i64 0)] fun C79 l23 =>
            .chk (.eqN r0 r0) <|
            .pure [] .len [(g vs 0)] fun v24 =>
            .pure [] (.bin .lss .int) [(g l23 0), v24] fun v25 =>
            .br v25 (
              .chk (.eqN r0 r0) <|
              .pure [] (.idx 12) [(g vs 0), (g l23 0)] fun v26 =>
              .load [] v26 12 fun l27 =>
              .chk (.eqN r1 r1) <|
              .pure [] (.idx 12) [(g vs 38), (g l23 0)] fun v28 =>
              .load [] v28 12 fun l29 =>
              .raw [] (.eqv .neq 46 false) [(.agg #[(g l27 0), (g l27 1), (g l27 2), (g l27 3), (g l27 4), (g l27 5), (g l27 6), (g l27 7), (g l27 8), (g l27 9), (g l27 10), (g l27 11)]), (.agg #[(g l29 0), (g l29 1), (g l29 2), (g l29 3), (g l29 4), (g l29 5), (g l29 6), (g l29 7), (g l29 8), (g l29 9), (g l29 10), (g l29 11)])] fun v30 =>
              .br v30 (
                .ret (.bool false) []) (
                .pure [] (.bin .add .int) [(g l23 0), (.int .i64 1)] fun v31 =>
                .cont 79 C79 [v31] [E [(.pointer (some ⟨r0, 0, none⟩))], E [(.pointer (some ⟨r1, 0, none⟩))], E [(.pointer (some ⟨r0, 0, none⟩)), (g vs 0), (g vs 1), (g vs 2), (g vs 3), (g vs 4), (g vs 5), (g vs 6), (g vs 7), (g vs 8), (g vs 9), (g vs 10), (g vs 11), (g vs 12), (g vs 13), (g vs 14), (g vs 15), (g vs 16), (g vs 17), (g vs 18), (g vs 19), (g vs 20), (g vs 21), (g vs 22), (g vs 23), (g vs 24), (g vs 25), (g vs 26), (g vs 27), (g vs 28), (g vs 29), (g vs 30), (g vs 31), (g vs 32), (g vs 33), (g vs 34), (g vs 35), (g vs 36), (g vs 37)], E [(.pointer (some ⟨r1, 0, none⟩)), (g vs 38), (g vs 39), (g vs 40), (g vs 41), (g vs 42), (g vs 43), (g vs 44), (g vs 45), (g vs 46), (g vs 47), (g vs 48), (g vs 49), (g vs 50), (g vs 51), (g vs 52), (g vs 53), (g vs 54), (g vs 55), (g vs 56), (g vs 57), (g vs 58), (g vs 59), (g vs 60), (g vs 61), (g vs 62), (g vs 63), (g vs 64), (g vs 65), (g vs 66), (g vs 67), (g vs 68), (g vs 69), (g vs 70), (g vs 71), (g vs 72), (g vs 73), (g vs 74), (g vs 75)]])) (
              .loop 86 9 [(.int .i64 0)] fun C86 l32 =>
                .chk (.eqN r0 r0) <|
                .pure [] .len [(g vs 32)] fun v33 =>
                .pure [] (.bin .lss .int) [(g l32 0), v33] fun v34 =>
                .br v34 (
                  .chk (.eqN r0 r0) <|
                  .pure [] (.idx 2) [(g vs 32), (g l32 0)] fun v35 =>
                  .load [] v35 2 fun l36 =>
                  .chk (.eqN r1 r1) <|
                  .pure [] (.idx 2) [(g vs 70), (g l32 0)] fun v37 =>
                  .load [] v37 2 fun l38 =>
                  .raw [] (.eqv .neq 64 false) [(.agg #[(g l36 0), (g l36 1)]), (.agg #[(g l38 0), (g l38 1)])] fun v39 =>
                  .br v39 (
                    .ret (.bool false) []) (
                    .pure [] (.bin .add .int) [(g l32 0), (.int .i64 1)] fun v40 =>
                    .cont 86 C86 [v40] [E [(.pointer (some ⟨r0, 0, none⟩))], E [(.pointer (some ⟨r1, 0, none⟩))], E [(.pointer (some ⟨r0, 0, none⟩)), (g vs 0), (g vs 1), (g vs 2), (g vs 3), (g vs 4), (g vs 5), (g vs 6), (g vs 7), (g vs 8), (g vs 9), (g vs 10), (g vs 11), (g vs 12), (g vs 13), (g vs 14), (g vs 15), (g vs 16), (g vs 17), (g vs 18), (g vs 19), (g vs 20), (g vs 21), (g vs 22), (g vs 23), (g vs 24), (g vs 25), (g vs 26), (g vs 27), (g vs 28), (g vs 29), (g vs 30), (g vs 31), (g vs 32), (g vs 33), (g vs 34), (g vs 35), (g vs 36), (g vs 37)], E [(.pointer (some ⟨r1, 0, none⟩)), (g vs 38), (g vs 39), (g vs 40), (g vs 41), (g vs 42), (g vs 43), (g vs 44), (g vs 45), (g vs 46), (g vs 47), (g vs 48), (g vs 49), (g vs 50), (g vs 51), (g vs 52), (g vs 53), (g vs 54), (g vs 55), (g vs 56), (g vs 57), (g vs 58), (g vs 59), (g vs 60), (g vs 61), (g vs 62), (g vs 63), (g vs 64), (g vs 65), (g vs 66), (g vs 67), (g vs 68), (g vs 69), (g vs 70), (g vs 71), (g vs 72), (g vs 73), (g vs 74), (g vs 75)]])) (
                  .chk (.eqN r0 r0) <|
                  .chk (.eqN r1 r1) <|
                  .newbox fun r2 =>
                  .newbox fun r3 =>
                  .chk (.eqN r2 r2) <|
                  .chk (.eqN r3 r3) <|
                  .chk (.eqN r2 r2) <|
                  .chk (.eqN r3 r3) <|
                  .pure [] (.bin .neq .int) [(g vs 1), (g vs 39)] fun v41 =>
                  .chk (.eqN r2 r2) <|
                  .chk (.eqV v41 v41) <|
                  .chk (.eqN r3 r3) <|
                  .chk (.eqV v41 v41) <|
                  .chk (.eqV v41 v41) <|
                  .chk (.eqV v41 v41) <|
                  .raw [(v41, false)] (.eqv .neq 26 false) [(.agg #[(g vs 2), (g vs 3), (g vs 4), (g vs 5)]), (.agg #[(g vs 40), (g vs 41), (g vs 42), (g vs 43)])] fun v42 =>
                  .chk (.eqV v41 v41) <|
                  .pure [] .pick [v41, (.bool true), v42] fun v43 =>
                  .chk (.eqN r2 r2) <|
                  .chk (.eqV v43 v43) <|
                  .chk (.eqN r3 r3) <|
                  .chk (.eqV v43 v43) <|
                  .chk (.eqV v43 v43) <|
                  .chk (.eqV v43 v43) <|
                  .pure [] (.bin .neq .bool) [(g vs 10), (g vs 48)] fun v44 =>
                  .chk (.eqV v43 v43) <|
                  .pure [] .pick [v43, (.bool true), v44] fun v45 =>
                  .chk (.eqN r2 r2) <|
                  .chk (.eqV v45 v45) <|
                  .chk (.eqN r3 r3) <|
                  .chk (.eqV v45 v45) <|
                  .chk (.eqV v45 v45) <|
                  .chk (.eqV v45 v45) <|
                  .pure [] (.bin .neq .bool) [(g vs 11), (g vs 49)] fun v46 =>
                  .chk (.eqV v45 v45) <|
                  .pure [] .pick [v45, (.bool true), v46] fun v47 =>
                  .chk (.eqN r2 r2) <|
                  .chk (.eqV v47 v47) <|
                  .chk (.eqN r3 r3) <|
                  .chk (.eqV v47 v47) <|
                  .chk (.eqV v47 v47) <|
                  .chk (.eqV v47 v47) <|
                  .pure [] (.bin .neq .bool) [(g vs 12), (g vs 50)] fun v48 =>
                  .chk (.eqV v47 v47) <|
                  .pure [] .pick [v47, (.bool true), v48] fun v49 =>
                  .chk (.eqN r2 r2) <|
                  .chk (.eqV v49 v49) <|
                  .chk (.eqN r3 r3) <|
                  .chk (.eqV v49 v49) <|
                  .chk (.eqV v49 v49) <|
                  .chk (.eqV v49 v49) <|
                  .pure [] (.bin .neq .int) [(g vs 13), (g vs 51)] fun v50 =>
                  .chk (.eqV v49 v49) <|
                  .pure [] .pick [v49, (.bool true), v50] fun v51 =>
                  .chk (.eqN r2 r2) <|
                  .chk (.eqV v51 v51) <|
                  .chk (.eqN r3 r3) <|
                  .chk (.eqV v51 v51) <|
                  .chk (.eqV v51 v51) <|
                  .chk (.eqV v51 v51) <|
                  .pure [] (.bin .neq .int) [(g vs 14), (g vs 52)] fun v52 =>
                  .chk (.eqV v51 v51) <|
                  .pure [] .pick [v51, (.bool true), v52] fun v53 =>
                  .br v53 (
                    .ret (.bool false) []) (
                    .chk (.eqN r2 r2) <|
                    .chk (.eqN r3 r3) <|
                    .call true 21 [(.agg #[(g vs 1), (g vs 2), (g vs 3), (g vs 4), (g vs 5), (g vs 6), (g vs 7), (g vs 8), (g vs 9), (g vs 10), (g vs 11), (g vs 12), (g vs 13), (g vs 14)])] [] [] (.agg 4) fun l54 _ =>
                    .call true 21 [(.agg #[(g vs 39), (g vs 40), (g vs 41), (g vs 42), (g vs 43), (g vs 44), (g vs 45), (g vs 46), (g vs 47), (g vs 48), (g vs 49), (g vs 50), (g vs 51), (g vs 52)])] [] [] (.agg 4) fun l55 _ =>
                    .newbox fun r4 =>
                    .newbox fun r5 =>
                    .chk (.eqN r4 r4) <|
                    .chk (.eqN r5 r5) <|
                    .chk (.eqN r4 r4) <|
                    .chk (.eqN r5 r5) <|
                    .call true 11 [(g l54 0), (g l55 0)] [] [] .one fun l56 _ =>
                    .pure [] .not [(g l56 0)] fun v57 =>
                    .br v57 (
                      .ret (.bool false) []) (
                      .chk (.eqN r4 r4) <|
                      .chk (.eqN r5 r5) <|
                      .call true 11 [(g l54 1), (g l55 1)] [] [] .one fun l58 _ =>
                      .pure [] .not [(g l58 0)] fun v59 =>
                      .br v59 (
                        .ret (.bool false) []) (
                        .chk (.eqN r4 r4) <|
                        .chk (.eqN r5 r5) <|
                        .call true 11 [(g l54 2), (g l55 2)] [] [] .one fun l60 _ =>
                        .pure [] .not [(g l60 0)] fun v61 =>
                        .br v61 (
                          .ret (.bool false) []) (
                          .chk (.eqN r4 r4) <|
                          .chk (.eqN r5 r5) <|
                          .call true 11 [(g l54 3), (g l55 3)] [] [] .one fun l62 _ =>
                          .pure [] .not [(g l62 0)] fun v63 =>
                          .br v63 (
                            .ret (.bool false) []) (
                            .chk (.eqN r0 r0) <|
                            .chk (.eqN r1 r1) <|
                            .newbox fun r6 =>
                            .newbox fun r7 =>
                            .chk (.eqN r6 r6) <|
                            .chk (.eqN r7 r7) <|
                            .chk (.eqN r6 r6) <|
                            .chk (.eqN r7 r7) <|
                            .pure [] (.bin .neq .int) [(g vs 15), (g vs 53)] fun v64 =>
                            .chk (.eqN r6 r6) <|
                            .chk (.eqV v64 v64) <|
                            .chk (.eqN r7 r7) <|
                            .chk (.eqV v64 v64) <|
                            .chk (.eqV v64 v64) <|
                            .chk (.eqV v64 v64) <|
                            .raw [(v64, false)] (.eqv .neq 26 false) [(.agg #[(g vs 16), (g vs 17), (g vs 18), (g vs 19)]), (.agg #[(g vs 54), (g vs 55), (g vs 56), (g vs 57)])] fun v65 =>
                            .chk (.eqV v64 v64) <|
                            .pure [] .pick [v64, (.bool true), v65] fun v66 =>
                            .chk (.eqN r6 r6) <|
                            .chk (.eqV v66 v66) <|
                            .chk (.eqN r7 r7) <|
                            .chk (.eqV v66 v66) <|
                            .chk (.eqV v66 v66) <|
                            .chk (.eqV v66 v66) <|
                            .pure [] (.bin .neq .bool) [(g vs 24), (g vs 62)] fun v67 =>
                            .chk (.eqV v66 v66) <|
                            .pure [] .pick [v66, (.bool true), v67] fun v68 =>
                            .chk (.eqN r6 r6) <|
                            .chk (.eqV v68 v68) <|
                            .chk (.eqN r7 r7) <|
                            .chk (.eqV v68 v68) <|
                            .chk (.eqV v68 v68) <|
                            .chk (.eqV v68 v68) <|
                            .pure [] (.bin .neq .bool) [(g vs 25), (g vs 63)] fun v69 =>
                            .chk (.eqV v68 v68) <|
                            .pure [] .pick [v68, (.bool true), v69] fun v70 =>
                            .chk (.eqN r6 r6) <|
                            .chk (.eqV v70 v70) <|
                            .chk (.eqN r7 r7) <|
                            .chk (.eqV v70 v70) <|
                            .chk (.eqV v70 v70) <|
                            .chk (.eqV v70 v70) <|
                            .pure [] (.bin .neq .bool) [(g vs 26), (g vs 64)] fun v71 =>
                            .chk (.eqV v70 v70) <|
                            .pure [] .pick [v70, (.bool true), v71] fun v72 =>
                            .chk (.eqN r6 r6) <|
                            .chk (.eqV v72 v72) <|
                            .chk (.eqN r7 r7) <|
                            .chk (.eqV v72 v72) <|
                            .chk (.eqV v72 v72) <|
                            .chk (.eqV v72 v72) <|
                            .pure [] (.bin .neq .int) [(g vs 27), (g vs 65)] fun v73 =>
                            .chk (.eqV v72 v72) <|
                            .pure [] .pick [v72, (.bool true), v73] fun v74 =>
                            .chk (.eqN r6 r6) <|
                            .chk (.eqV v74 v74) <|
                            .chk (.eqN r7 r7) <|
                            .chk (.eqV v74 v74) <|
                            .chk (.eqV v74 v74) <|
                            .chk (.eqV v74 v74) <|
                            .pure [] (.bin .neq .int) [(g vs 28), (g vs 66)] fun v75 =>
                            .chk (.eqV v74 v74) <|
                            .pure [] .pick [v74, (.bool true), v75] fun v76 =>
                            .br v76 (
                              .ret (.bool false) []) (
                              .chk (.eqN r6 r6) <|
                              .chk (.eqN r7 r7) <|
                              .call true 21 [(.agg #[(g vs 15), (g vs 16), (g vs 17), (g vs 18), (g vs 19), (g vs 20), (g vs 21), (g vs 22), (g vs 23), (g vs 24), (g vs 25), (g vs 26), (g vs 27), (g vs 28)])] [] [] (.agg 4) fun l77 _ =>
                              .call true 21 [(.agg #[(g vs 53), (g vs 54), (g vs 55), (g vs 56), (g vs 57), (g vs 58), (g vs 59), (g vs 60), (g vs 61), (g vs 62), (g vs 63), (g vs 64), (g vs 65), (g vs 66)])] [] [] (.agg 4) fun l78 _ =>
                              .newbox fun r8 =>
                              .newbox fun r9 =>
                              .chk (.eqN r8 r8) <|
                              .chk (.eqN r9 r9) <|
                              .chk (.eqN r8 r8) <|
                              .chk (.eqN r9 r9) <|
                              .call true 11 [(g l77 0), (g l78 0)] [] [] .one fun l79 _ =>
                              .pure [] .not [(g l79 0)] fun v80 =>
                              .br v80 (
                                .ret (.bool false) []) (
                                .chk (.eqN r8 r8) <|
                                .chk (.eqN r9 r9) <|
                                .call true 11 [(g l77 1), (g l78 1)] [] [] .one fun l81 _ =>
                                .pure [] .not [(g l81 0)] fun v82 =>
                                .br v82 (
                                  .ret (.bool false) []) (
                                  .chk (.eqN r8 r8) <|
                                  .chk (.eqN r9 r9) <|
                                  .call true 11 [(g l77 2), (g l78 2)] [] [] .one fun l83 _ =>
                                  .pure [] .not [(g l83 0)] fun v84 =>
                                  .br v84 (
                                    .ret (.bool false) []) (
                                    .chk (.eqN r8 r8) <|
                                    .chk (.eqN r9 r9) <|
                                    .call true 11 [(g l77 3), (g l78 3)] [] [] .one fun l85 _ =>
                                    .pure [] .not [(g l85 0)] fun v86 =>
                                    .br v86 (
                                      .ret (.bool false) []) (
                                      .ret (.bool true) []))))))))))))))))
theorem T_zeitnotref15_Same_eq (vs : List Value) : sxFun PP Tryd.f7 (mkOpts okL [(28, [5, 6, 7, 8])] [(14, .unroll 3), (21, .unroll 5), (4, .inv [5] [2, 3] [(2, []), (3, [])]), (9, .inv [6] [2, 3] [(2, []), (3, [])])] []) vs = T_zeitnotref15_Same vs := by kernel_rfl
theorem run_zeitnotref15_Same {args vs : List Value} (ha : entryArgs PP Tryd.f7 args = some vs) (ho : Ones vs) {H : Heap} {O : Own} {Q : Value → Heap → Own → Prop} (h : (T_zeitnotref15_Same vs).den PP Q H O) : Triple PP F_zeitnotref15_Same args H O Q :=
  triple_run mixed (mkOpts_ok okL_ok _ _ _) Tryd.func7 T_zeitnotref15_Same_eq ha ho h

abbrev F_zeitnotlaw15_where : FuncId := 8
/- zeitnot/zeitnotlaw15.where -/
def T_zeitnotlaw15_where (vs : List Value) : Tree :=
  .newbox fun r0 =>
  .newbox fun r1 =>
  .chk (.eqN r0 r0) <|
  .call false 22 [(.agg #[(g vs 0), (g vs 1), (g vs 2), (g vs 3), (g vs 4), (g vs 5), (g vs 6), (g vs 7), (g vs 8), (g vs 9), (g vs 10), (g vs 11), (g vs 12), (g vs 13), (g vs 14), (g vs 15), (g vs 16), (g vs 17), (g vs 18), (g vs 19), (g vs 20), (g vs 21), (g vs 22), (g vs 23), (g vs 24), (g vs 25), (g vs 26), (g vs 27), (g vs 28), (g vs 29), (g vs 30), (g vs 31), (g vs 32), (g vs 33), (g vs 34), (g vs 35), (g vs 36), (g vs 37)]), (g vs 38)] [] [] (.tup [some 3, none]) fun l0 _ =>
  .newbox fun r2 =>
  .chk (.eqN r2 r2) <|
  .chk (.eqN r2 r2) <|
  .chk (.eqN r1 r1) <|
  .raw [] (.eqv .eql 44 false) [(.agg #[(g l0 0), (g l0 1), (g l0 2)]), (.agg #[(g vs 39), (g vs 40), (g vs 41)])] fun v1 =>
  .chk (.eqV v1 v1) <|
  .chk (.eqV v1 v1) <|
  .pure [] (.bin .eql .int) [(g l0 3), (g vs 42)] fun v2 =>
  .chk (.eqV v1 v1) <|
  .pure [] .pick [v1, v2, (.bool false)] fun v3 =>
  .ret v3 []
theorem T_zeitnotlaw15_where_eq (vs : List Value) : sxFun PP Tryd.f8 (mkOpts okL [(28, [5, 6, 7, 8])] [] []) vs = T_zeitnotlaw15_where vs := by kernel_rfl
theorem run_zeitnotlaw15_where {args vs : List Value} (ha : entryArgs PP Tryd.f8 args = some vs) (ho : Ones vs) {H : Heap} {O : Own} {Q : Value → Heap → Own → Prop} (h : (T_zeitnotlaw15_where vs).den PP Q H O) : Triple PP F_zeitnotlaw15_where args H O Q :=
  triple_run mixed (mkOpts_ok okL_ok _ _ _) Tryd.func8 T_zeitnotlaw15_where_eq ha ho h

abbrev F_board_Find : FuncId := 9
/- zeitnot/board.Find -/
def T_board_Find (vs : List Value) : Tree :=
  .newbox fun r0 =>
  .newbox fun r1 =>
  .chk (.eqN r0 r0) <|
  .call false 23 [(.agg #[(g vs 0), (g vs 1), (g vs 2), (g vs 3), (g vs 4), (g vs 5), (g vs 6), (g vs 7), (g vs 8), (g vs 9), (g vs 10), (g vs 11), (g vs 12), (g vs 13), (g vs 14), (g vs 15), (g vs 16), (g vs 17), (g vs 18), (g vs 19), (g vs 20), (g vs 21), (g vs 22), (g vs 23), (g vs 24), (g vs 25), (g vs 26), (g vs 27), (g vs 28), (g vs 29), (g vs 30), (g vs 31), (g vs 32), (g vs 33), (g vs 34), (g vs 35), (g vs 36), (g vs 37)]), (g vs 38)] [] [] (.tup [none, none]) fun l0 _ =>
  .pure [] (.bin .neq .int) [(g l0 1), (.int .i64 0)] fun v1 =>
  .br v1 (
    .chk (.eqN r1 r1) <|
    .chk (.eqN r1 r1) <|
    .ret (.tuple #[(.agg #[(.int .i64 0), (.int .i64 0), (.int .i64 0), (.int .i64 0), (.int .i64 0), (.int .i64 0), (.int .i64 0), (.int .i64 0), (.int .i64 0), (.bool false), (.bool false), (.bool false)]), (g l0 1)]) []) (
    .chk (.eqN r0 r0) <|
    .pure [] (.idx 12) [(g vs 0), (g l0 0)] fun v2 =>
    .load [] v2 12 fun l3 =>
    .chk (.eqN r1 r1) <|
    .chk (.eqN r1 r1) <|
    .ret (.tuple #[(.agg #[(g l3 0), (g l3 1), (g l3 2), (g l3 3), (g l3 4), (g l3 5), (g l3 6), (g l3 7), (g l3 8), (g l3 9), (g l3 10), (g l3 11)]), (.int .i64 0)]) [])
theorem T_board_Find_eq (vs : List Value) : sxFun PP Tryd.f9 (mkOpts okL [(28, [5, 6, 7, 8])] [] []) vs = T_board_Find vs := by kernel_rfl
theorem run_board_Find {args vs : List Value} (ha : entryArgs PP Tryd.f9 args = some vs) (ho : Ones vs) {H : Heap} {O : Own} {Q : Value → Heap → Own → Prop} (h : (T_board_Find vs).den PP Q H O) : Triple PP F_board_Find args H O Q :=
  triple_run mixed (mkOpts_ok okL_ok _ _ _) Tryd.func9 T_board_Find_eq ha ho h

abbrev F_board_Draw : FuncId := 10
/- zeitnot/board.Draw -/
def T_board_Draw (vs : List Value) : Tree :=
  .newbox fun r0 =>
  .newbox fun r1 =>
  .chk (.eqN r0 r0) <|
  .call false 24 [(.agg #[(g vs 0), (g vs 1), (g vs 2), (g vs 3), (g vs 4), (g vs 5), (g vs 6), (g vs 7), (g vs 8), (g vs 9), (g vs 10), (g vs 11), (g vs 12), (g vs 13), (g vs 14), (g vs 15), (g vs 16), (g vs 17), (g vs 18), (g vs 19), (g vs 20), (g vs 21), (g vs 22), (g vs 23), (g vs 24), (g vs 25), (g vs 26), (g vs 27), (g vs 28), (g vs 29), (g vs 30), (g vs 31), (g vs 32), (g vs 33), (g vs 34), (g vs 35), (g vs 36), (g vs 37)])] [] [] .one fun l0 _ =>
  .pure [] .not [(g l0 0)] fun v1 =>
  .br v1 (
    .chk (.eqN r1 r1) <|
    .chk (.eqN r1 r1) <|
    .ret (.tuple #[(.agg #[(.slice none 0 0), (.int .i64 0), (.int .i64 0), (.int .i64 0), (.int .i64 0), (.int .i64 0), (.slice none 0 0), (.slice none 0 0), (.slice none 0 0), (.slice none 0 0), (.bool false), (.bool false), (.bool false), (.int .i64 0), (.int .i64 0), (.int .i64 0), (.int .i64 0), (.int .i64 0), (.int .i64 0), (.int .i64 0), (.slice none 0 0), (.slice none 0 0), (.slice none 0 0), (.slice none 0 0), (.bool false), (.bool false), (.bool false), (.int .i64 0), (.int .i64 0), (.slice none 0 0), (.slice none 0 0), (.slice none 0 0), (.slice none 0 0), (.int .i64 0), (.int .i64 0), (.int .i64 0), (.int .i64 0), (.int .i64 0)]), (.int .i64 2)]) []) (
    .call false 18 [(g vs 38), (.int .i64 0), (.int .i64 1)] [] [] .one fun l2 _ =>
    .pure [] .not [(g l2 0)] fun v3 =>
    .chk (.eqV v3 v3) <|
    .pure [] (.bin .lss .int) [(g vs 39), (.int .i64 0)] fun v4 =>
    .chk (.eqV v3 v3) <|
    .pure [] .pick [v3, (.bool true), v4] fun v5 =>
    .br v5 (
      .chk (.eqN r1 r1) <|
      .chk (.eqN r1 r1) <|
      .ret (.tuple #[(.agg #[(.slice none 0 0), (.int .i64 0), (.int .i64 0), (.int .i64 0), (.int .i64 0), (.int .i64 0), (.slice none 0 0), (.slice none 0 0), (.slice none 0 0), (.slice none 0 0), (.bool false), (.bool false), (.bool false), (.int .i64 0), (.int .i64 0), (.int .i64 0), (.int .i64 0), (.int .i64 0), (.int .i64 0), (.int .i64 0), (.slice none 0 0), (.slice none 0 0), (.slice none 0 0), (.slice none 0 0), (.bool false), (.bool false), (.bool false), (.int .i64 0), (.int .i64 0), (.slice none 0 0), (.slice none 0 0), (.slice none 0 0), (.slice none 0 0), (.int .i64 0), (.int .i64 0), (.int .i64 0), (.int .i64 0), (.int .i64 0)]), (.int .i64 2)]) []) (
      .chk (.eqN r0 r0) <|
      .call false 25 [(.agg #[(g vs 0), (g vs 1), (g vs 2), (g vs 3), (g vs 4), (g vs 5), (g vs 6), (g vs 7), (g vs 8), (g vs 9), (g vs 10), (g vs 11), (g vs 12), (g vs 13), (g vs 14), (g vs 15), (g vs 16), (g vs 17), (g vs 18), (g vs 19), (g vs 20), (g vs 21), (g vs 22), (g vs 23), (g vs 24), (g vs 25), (g vs 26), (g vs 27), (g vs 28), (g vs 29), (g vs 30), (g vs 31), (g vs 32), (g vs 33), (g vs 34), (g vs 35), (g vs 36), (g vs 37)])] [] [] (.agg 38) fun l6 _ =>
      .chk (.eqN r0 r0) <|
      .sw (g vs 38) 0 (
        .loop 22 5 [(g vs 39), (g l6 6), (g l6 7), (g l6 20), (g l6 21)] fun C22 l7 =>
          .pure [] (.bin .gtr .int) [(g l7 0), (.int .i64 0)] fun v8 =>
          .br v8 (
            .chk (.eqN r0 r0) <|
            .pure [] .len [(g l7 1)] fun v9 =>
            .pure [] (.bin .eql .int) [v9, (.int .i64 0)] fun v10 =>
            .br v10 (
              .chk (.eqN r0 r0) <|
              .chk (.eqN r0 r0) <|
              .chk (.eqN r1 r1) <|
              .chk (.eqN r1 r1) <|
              .ret (.tuple #[(.agg #[(g l6 0), (g l6 1), (g l6 2), (g l6 3), (g l6 4), (g l6 5), (g l7 1), (g l7 2), (g l6 8), (g l6 9), (.bool true), (g l6 11), (g l6 12), (g l6 13), (g l6 14), (g l6 15), (g l6 16), (g l6 17), (g l6 18), (g l6 19), (g l7 3), (g l7 4), (g l6 22), (g l6 23), (g l6 24), (g l6 25), (g l6 26), (g l6 27), (g l6 28), (g l6 29), (g l6 30), (g l6 31), (g l6 32), (g l6 33), (g l6 34), (g l6 35), (g l6 36), (g l6 37)]), (.int .i64 0)]) []) (
              .chk (.eqN r0 r0) <|
              .pure [] (.bin .sub .int) [v9, (.int .i64 1)] fun v11 =>
              .pure [] (.idx 1) [(g l7 1), v11] fun v12 =>
              .load [] v12 1 fun l13 =>
              .chk (.eqN r0 r0) <|
              .pure [] (.bin .sub .int) [v9, (.int .i64 1)] fun v14 =>
              .pure [] (.slc 1 false true false) [(g l7 1), v14] fun v15 =>
              .chk (.eqN r0 r0) <|
              .newbox fun r2 =>
              .prim (.bi .append #[22, 22] 22) [(g l7 2), (.slice (some ⟨r2, 0, none⟩) 1 1)] [⟨r2, 3, [(g l13 0)]⟩] [] .one fun l16 _ =>
              .chk (.eqN r0 r0) <|
              .chk (.eqN r0 r0) <|
              .chk (.eqN r0 r0) <|
              .call false 23 [(.agg #[(g l6 0), (g l6 1), (g l6 2), (g l6 3), (g l6 4), (g l6 5), v15, (g l16 0), (g l6 8), (g l6 9), (g l6 10), (g l6 11), (g l6 12), (g l6 13), (g l6 14), (g l6 15), (g l6 16), (g l6 17), (g l6 18), (g l6 19), (g l7 3), (g l7 4), (g l6 22), (g l6 23), (g l6 24), (g l6 25), (g l6 26), (g l6 27), (g l6 28), (g l6 29), (g l6 30), (g l6 31), (g l6 32), (g l6 33), (g l6 34), (g l6 35), (g l6 36), (g l6 37)]), (g l13 0)] [] [] (.tup [none, none]) fun l17 _ =>
              .chk (.eqN r0 r0) <|
              .chk (.eqN r0 r0) <|
              .pure [] (.idx 12) [(g l6 0), (g l17 0)] fun v18 =>
              .load [] v18 12 fun l19 =>
              .call true 26 [(.agg #[(g l19 0), (g l19 1), (g l19 2), (g l19 3), (g l19 4), (g l19 5), (g l19 6), (g l19 7), (g l19 8), (g l19 9), (g l19 10), (g l19 11)]), (.int .i64 1)] [] [] (.agg 12) fun l20 _ =>
              .pure [] (.idx 12) [(g l6 0), (g l17 0)] fun v21 =>
              .chk (.ptr [] v21) <|
              .store v21 [(g l20 0), (g l20 1), (g l20 2), (g l20 3), (g l20 4), (g l20 5), (g l20 6), (g l20 7), (g l20 8), (g l20 9), (g l20 10), (g l20 11)] <|
              .pure [] (.bin .sub .int) [(g l7 0), (.int .i64 1)] fun v22 =>
              .cont 22 C22 [v22, v15, (g l16 0), (g l7 3), (g l7 4)] [E [(.pointer (some ⟨r0, 0, none⟩))], E [(.pointer (some ⟨r1, 0, none⟩))], E [(.pointer (some ⟨r0, 1, none⟩))], E [(.pointer (some ⟨r0, 0, none⟩)), (g l6 0), (g l6 1), (g l6 2), (g l6 3), (g l6 4), (g l6 5), (.tuple #[]), (.tuple #[]), (g l6 8), (g l6 9), (g l6 10), (g l6 11), (g l6 12), (g l6 13), (g l6 14), (g l6 15), (g l6 16), (g l6 17), (g l6 18), (g l6 19), (.tuple #[]), (.tuple #[]), (g l6 22), (g l6 23), (g l6 24), (g l6 25), (g l6 26), (g l6 27), (g l6 28), (g l6 29), (g l6 30), (g l6 31), (g l6 32), (g l6 33), (g l6 34), (g l6 35), (g l6 36), (g l6 37)], E [(.pointer (some ⟨r1, 0, none⟩)), (.slice none 0 0), (.int .i64 0), (.int .i64 0), (.int .i64 0), (.int .i64 0), (.int .i64 0), (.slice none 0 0), (.slice none 0 0), (.slice none 0 0), (.slice none 0 0), (.bool false), (.bool false), (.bool false), (.int .i64 0), (.int .i64 0), (.int .i64 0), (.int .i64 0), (.int .i64 0), (.int .i64 0), (.int .i64 0), (.slice none 0 0), (.slice none 0 0), (.slice none 0 0), (.slice none 0 0), (.bool false), (.bool false), (.bool false), (.int .i64 0), (.int .i64 0), (.slice none 0 0), (.slice none 0 0), (.slice none 0 0), (.slice none 0 0), (.int .i64 0), (.int .i64 0), (.int .i64 0), (.int .i64 0), (.int .i64 0)]])) (
            .chk (.eqN r0 r0) <|
            .chk (.eqN r1 r1) <|
            .chk (.eqN r1 r1) <|
            .ret (.tuple #[(.agg #[(g l6 0), (g l6 1), (g l6 2), (g l6 3), (g l6 4), (g l6 5), (g l7 1), (g l7 2), (g l6 8), (g l6 9), (g l6 10), (g l6 11), (g l6 12), (g l6 13), (g l6 14), (g l6 15), (g l6 16), (g l6 17), (g l6 18), (g l6 19), (g l7 3), (g l7 4), (g l6 22), (g l6 23), (g l6 24), (g l6 25), (g l6 26), (g l6 27), (g l6 28), (g l6 29), (g l6 30), (g l6 31), (g l6 32), (g l6 33), (g l6 34), (g l6 35), (g l6 36), (g l6 37)]), (.int .i64 0)]) [])) (
        .sw (g vs 38) 1 (
          .loop 22 5 [(g vs 39), (g l6 6), (g l6 7), (g l6 20), (g l6 21)] fun C22 l23 =>
            .pure [] (.bin .gtr .int) [(g l23 0), (.int .i64 0)] fun v24 =>
            .br v24 (
              .chk (.eqN r0 r0) <|
              .pure [] .len [(g l23 3)] fun v25 =>
              .pure [] (.bin .eql .int) [v25, (.int .i64 0)] fun v26 =>
              .br v26 (
                .chk (.eqN r0 r0) <|
                .chk (.eqN r0 r0) <|
                .chk (.eqN r1 r1) <|
                .chk (.eqN r1 r1) <|
                .ret (.tuple #[(.agg #[(g l6 0), (g l6 1), (g l6 2), (g l6 3), (g l6 4), (g l6 5), (g l23 1), (g l23 2), (g l6 8), (g l6 9), (g l6 10), (g l6 11), (g l6 12), (g l6 13), (g l6 14), (g l6 15), (g l6 16), (g l6 17), (g l6 18), (g l6 19), (g l23 3), (g l23 4), (g l6 22), (g l6 23), (.bool true), (g l6 25), (g l6 26), (g l6 27), (g l6 28), (g l6 29), (g l6 30), (g l6 31), (g l6 32), (g l6 33), (g l6 34), (g l6 35), (g l6 36), (g l6 37)]), (.int .i64 0)]) []) (
                .chk (.eqN r0 r0) <|
                .pure [] (.bin .sub .int) [v25, (.int .i64 1)] fun v27 =>
                .pure [] (.idx 1) [(g l23 3), v27] fun v28 =>
                .load [] v28 1 fun l29 =>
                .chk (.eqN r0 r0) <|
                .pure [] (.bin .sub .int) [v25, (.int .i64 1)] fun v30 =>
                .pure [] (.slc 1 false true false) [(g l23 3), v30] fun v31 =>
                .chk (.eqN r0 r0) <|
                .newbox fun r3 =>
                .prim (.bi .append #[22, 22] 22) [(g l23 4), (.slice (some ⟨r3, 0, none⟩) 1 1)] [⟨r3, 3, [(g l29 0)]⟩] [] .one fun l32 _ =>
                .chk (.eqN r0 r0) <|
                .chk (.eqN r0 r0) <|
                .chk (.eqN r0 r0) <|
                .call false 23 [(.agg #[(g l6 0), (g l6 1), (g l6 2), (g l6 3), (g l6 4), (g l6 5), (g l23 1), (g l23 2), (g l6 8), (g l6 9), (g l6 10), (g l6 11), (g l6 12), (g l6 13), (g l6 14), (g l6 15), (g l6 16), (g l6 17), (g l6 18), (g l6 19), v31, (g l32 0), (g l6 22), (g l6 23), (g l6 24), (g l6 25), (g l6 26), (g l6 27), (g l6 28), (g l6 29), (g l6 30), (g l6 31), (g l6 32), (g l6 33), (g l6 34), (g l6 35), (g l6 36), (g l6 37)]), (g l29 0)] [] [] (.tup [none, none]) fun l33 _ =>
                .chk (.eqN r0 r0) <|
                .chk (.eqN r0 r0) <|
                .pure [] (.idx 12) [(g l6 0), (g l33 0)] fun v34 =>
                .load [] v34 12 fun l35 =>
                .call true 26 [(.agg #[(g l35 0), (g l35 1), (g l35 2), (g l35 3), (g l35 4), (g l35 5), (g l35 6), (g l35 7), (g l35 8), (g l35 9), (g l35 10), (g l35 11)]), (.int .i64 1)] [] [] (.agg 12) fun l36 _ =>
                .pure [] (.idx 12) [(g l6 0), (g l33 0)] fun v37 =>
                .chk (.ptr [] v37) <|
                .store v37 [(g l36 0), (g l36 1), (g l36 2), (g l36 3), (g l36 4), (g l36 5), (g l36 6), (g l36 7), (g l36 8), (g l36 9), (g l36 10), (g l36 11)] <|
                .pure [] (.bin .sub .int) [(g l23 0), (.int .i64 1)] fun v38 =>
                .cont 22 C22 [v38, (g l23 1), (g l23 2), v31, (g l32 0)] [E [(.pointer (some ⟨r0, 0, none⟩))], E [(.pointer (some ⟨r1, 0, none⟩))], E [(.pointer (some ⟨r0, 15, none⟩))], E [(.pointer (some ⟨r0, 0, none⟩)), (g l6 0), (g l6 1), (g l6 2), (g l6 3), (g l6 4), (g l6 5), (.tuple #[]), (.tuple #[]), (g l6 8), (g l6 9), (g l6 10), (g l6 11), (g l6 12), (g l6 13), (g l6 14), (g l6 15), (g l6 16), (g l6 17), (g l6 18), (g l6 19), (.tuple #[]), (.tuple #[]), (g l6 22), (g l6 23), (g l6 24), (g l6 25), (g l6 26), (g l6 27), (g l6 28), (g l6 29), (g l6 30), (g l6 31), (g l6 32), (g l6 33), (g l6 34), (g l6 35), (g l6 36), (g l6 37)], E [(.pointer (some ⟨r1, 0, none⟩)), (.slice none 0 0), (.int .i64 0), (.int .i64 0), (.int .i64 0), (.int .i64 0), (.int .i64 0), (.slice none 0 0), (.slice none 0 0), (.slice none 0 0), (.slice none 0 0), (.bool false), (.bool false), (.bool false), (.int .i64 0), (.int .i64 0), (.int .i64 0), (.int .i64 0), (.int .i64 0), (.int .i64 0), (.int .i64 0), (.slice none 0 0), (.slice none 0 0), (.slice none 0 0), (.slice none 0 0), (.bool false), (.bool false), (.bool false), (.int .i64 0), (.int .i64 0), (.slice none 0 0), (.slice none 0 0), (.slice none 0 0), (.slice none 0 0), (.int .i64 0), (.int .i64 0), (.int .i64 0), (.int .i64 0), (.int .i64 0)]])) (
              .chk (.eqN r0 r0) <|
              .chk (.eqN r1 r1) <|
              .chk (.eqN r1 r1) <|
              .ret (.tuple #[(.agg #[(g l6 0), (g l6 1), (g l6 2), (g l6 3), (g l6 4), (g l6 5), (g l23 1), (g l23 2), (g l6 8), (g l6 9), (g l6 10), (g l6 11), (g l6 12), (g l6 13), (g l6 14), (g l6 15), (g l6 16), (g l6 17), (g l6 18), (g l6 19), (g l23 3), (g l23 4), (g l6 22), (g l6 23), (g l6 24), (g l6 25), (g l6 26), (g l6 27), (g l6 28), (g l6 29), (g l6 30), (g l6 31), (g l6 32), (g l6 33), (g l6 34), (g l6 35), (g l6 36), (g l6 37)]), (.int .i64 0)]) [])) (
          .stuck 901))))
theorem T_board_Draw_eq (vs : List Value) : sxFun PP Tryd.f10 (mkOpts okL [(28, [5, 6, 7, 8])] [(5, .inv [2] [3, 6, 8] [(3, [6, 7, 20, 21]), (6, [])])] []) vs = T_board_Draw vs := by kernel_rfl
theorem run_board_Draw {args vs : List Value} (ha : entryArgs PP Tryd.f10 args = some vs) (ho : Ones vs) {H : Heap} {O : Own} {Q : Value → Heap → Own → Prop} (h : (T_board_Draw vs).den PP Q H O) : Triple PP F_board_Draw args H O Q :=
  triple_run mixed (mkOpts_ok okL_ok _ _ _) Tryd.func10 T_board_Draw_eq ha ho h

abbrev F_zeitnotref15_Ints : FuncId := 11
/- zeitnot/zeitnotref15.Ints -/
def T_zeitnotref15_Ints (vs : List Value) : Tree :=
  .pure [] .len [(g vs 0)] fun v0 =>
  .pure [] .len [(g vs 1)] fun v1 =>
  .pure [] (.bin .neq .int) [v0, v1] fun v2 =>
  .br v2 (
    .ret (.bool false) []) (
    .loop 7 4 [(.int .i64 0)] fun C7 l3 =>
      .pure [] .len [(g vs 0)] fun v4 =>
      .pure [] (.bin .lss .int) [(g l3 0), v4] fun v5 =>
      .br v5 (
        .pure [] (.idx 1) [(g vs 0), (g l3 0)] fun v6 =>
        .load [] v6 1 fun l7 =>
        .pure [] (.idx 1) [(g vs 1), (g l3 0)] fun v8 =>
        .load [] v8 1 fun l9 =>
        .pure [] (.bin .neq .int) [(g l7 0), (g l9 0)] fun v10 =>
        .br v10 (
          .ret (.bool false) []) (
          .pure [] (.bin .add .int) [(g l3 0), (.int .i64 1)] fun v11 =>
          .cont 7 C7 [v11] [E [(g vs 0)], E [(g vs 1)]])) (
        .ret (.bool true) []))
theorem T_zeitnotref15_Ints_eq (vs : List Value) : sxFun PP Tryd.f11 (mkOpts okL [(28, [5, 6, 7, 8])] [(4, .inv [5] [0, 1] [])] []) vs = T_zeitnotref15_Ints vs := by kernel_rfl
theorem run_zeitnotref15_Ints {args vs : List Value} (ha : entryArgs PP Tryd.f11 args = some vs) (ho : Ones vs) {H : Heap} {O : Own} {Q : Value → Heap → Own → Prop} (h : (T_zeitnotref15_Ints vs).den PP Q H O) : Triple PP F_zeitnotref15_Ints args H O Q :=
  triple_run mixed (mkOpts_ok okL_ok _ _ _) Tryd.func11 T_zeitnotref15_Ints_eq ha ho h

abbrev F_board_Move : FuncId := 12
/- zeitnot/board.Move -/
def T_board_Move (vs : List Value) : Tree :=
  .newbox fun r0 =>
  .newbox fun r1 =>
  .chk (.eqN r0 r0) <|
  .call false 23 [(.agg #[(g vs 0), (g vs 1), (g vs 2), (g vs 3), (g vs 4), (g vs 5), (g vs 6), (g vs 7), (g vs 8), (g vs 9), (g vs 10), (g vs 11), (g vs 12), (g vs 13), (g vs 14), (g vs 15), (g vs 16), (g vs 17), (g vs 18), (g vs 19), (g vs 20), (g vs 21), (g vs 22), (g vs 23), (g vs 24), (g vs 25), (g vs 26), (g vs 27), (g vs 28), (g vs 29), (g vs 30), (g vs 31), (g vs 32), (g vs 33), (g vs 34), (g vs 35), (g vs 36), (g vs 37)]), (g vs 38)] [] [] (.tup [none, none]) fun l0 _ =>
  .pure [] (.bin .eql .int) [(g l0 1), (.int .i64 2)] fun v1 =>
  .br v1 (
    .chk (.eqN r1 r1) <|
    .chk (.eqN r1 r1) <|
    .ret (.tuple #[(.agg #[(.slice none 0 0), (.int .i64 0), (.int .i64 0), (.int .i64 0), (.int .i64 0), (.int .i64 0), (.slice none 0 0), (.slice none 0 0), (.slice none 0 0), (.slice none 0 0), (.bool false), (.bool false), (.bool false), (.int .i64 0), (.int .i64 0), (.int .i64 0), (.int .i64 0), (.int .i64 0), (.int .i64 0), (.int .i64 0), (.slice none 0 0), (.slice none 0 0), (.slice none 0 0), (.slice none 0 0), (.bool false), (.bool false), (.bool false), (.int .i64 0), (.int .i64 0), (.slice none 0 0), (.slice none 0 0), (.slice none 0 0), (.slice none 0 0), (.int .i64 0), (.int .i64 0), (.int .i64 0), (.int .i64 0), (.int .i64 0)]), (.int .i64 2)]) []) (
    .call false 18 [(g vs 39), (.int .i64 0), (.int .i64 3)] [] [] .one fun l2 _ =>
    .pure [] .not [(g l2 0)] fun v3 =>
    .br v3 (
      .chk (.eqN r1 r1) <|
      .chk (.eqN r1 r1) <|
      .ret (.tuple #[(.agg #[(.slice none 0 0), (.int .i64 0), (.int .i64 0), (.int .i64 0), (.int .i64 0), (.int .i64 0), (.slice none 0 0), (.slice none 0 0), (.slice none 0 0), (.slice none 0 0), (.bool false), (.bool false), (.bool false), (.int .i64 0), (.int .i64 0), (.int .i64 0), (.int .i64 0), (.int .i64 0), (.int .i64 0), (.int .i64 0), (.slice none 0 0), (.slice none 0 0), (.slice none 0 0), (.slice none 0 0), (.bool false), (.bool false), (.bool false), (.int .i64 0), (.int .i64 0), (.slice none 0 0), (.slice none 0 0), (.slice none 0 0), (.slice none 0 0), (.int .i64 0), (.int .i64 0), (.int .i64 0), (.int .i64 0), (.int .i64 0)]), (.int .i64 2)]) []) (
      .pure [] (.bin .neq .int) [(g l0 1), (.int .i64 0)] fun v4 =>
      .br v4 (
        .chk (.eqN r1 r1) <|
        .chk (.eqN r1 r1) <|
        .ret (.tuple #[(.agg #[(.slice none 0 0), (.int .i64 0), (.int .i64 0), (.int .i64 0), (.int .i64 0), (.int .i64 0), (.slice none 0 0), (.slice none 0 0), (.slice none 0 0), (.slice none 0 0), (.bool false), (.bool false), (.bool false), (.int .i64 0), (.int .i64 0), (.int .i64 0), (.int .i64 0), (.int .i64 0), (.int .i64 0), (.int .i64 0), (.slice none 0 0), (.slice none 0 0), (.slice none 0 0), (.slice none 0 0), (.bool false), (.bool false), (.bool false), (.int .i64 0), (.int .i64 0), (.slice none 0 0), (.slice none 0 0), (.slice none 0 0), (.slice none 0 0), (.int .i64 0), (.int .i64 0), (.int .i64 0), (.int .i64 0), (.int .i64 0)]), (g l0 1)]) []) (
        .chk (.eqN r0 r0) <|
        .call false 27 [(.agg #[(g vs 0), (g vs 1), (g vs 2), (g vs 3), (g vs 4), (g vs 5), (g vs 6), (g vs 7), (g vs 8), (g vs 9), (g vs 10), (g vs 11), (g vs 12), (g vs 13), (g vs 14), (g vs 15), (g vs 16), (g vs 17), (g vs 18), (g vs 19), (g vs 20), (g vs 21), (g vs 22), (g vs 23), (g vs 24), (g vs 25), (g vs 26), (g vs 27), (g vs 28), (g vs 29), (g vs 30), (g vs 31), (g vs 32), (g vs 33), (g vs 34), (g vs 35), (g vs 36), (g vs 37)]), (g vs 38)] [] [] (.agg 38) fun l5 _ =>
        .chk (.eqN r0 r0) <|
        .chk (.eqN r0 r0) <|
        .pure [] (.idx 12) [(g l5 0), (g l0 0)] fun v6 =>
        .load [] v6 12 fun l7 =>
        .call false 26 [(.agg #[(g l7 0), (g l7 1), (g l7 2), (g l7 3), (g l7 4), (g l7 5), (g l7 6), (g l7 7), (g l7 8), (g l7 9), (g l7 10), (g l7 11)]), (g vs 39)] [] [] (.agg 12) fun l8 _ =>
        .newbox fun r2 =>
        .chk (.eqN r2 r2) <|
        .chk (.eqN r0 r0) <|
        .chk (.eqN r2 r2) <|
        .pure [] (.idx 12) [(g l5 0), (g l0 0)] fun v9 =>
        .chk (.ptr [] v9) <|
        .store v9 [(g l8 0), (g l8 1), (g l8 2), (g l8 3), (g l8 4), (g l8 5), (g l8 6), (g l8 7), (g l8 8), (g l8 9), (g l8 10), (g l8 11)] <|
        .chk (.eqN r2 r2) <|
        .sw (g l8 2) 0 (
          .call false 28 [(.pointer (some ⟨r0, 1, none⟩))] [] [] (.agg 4) fun l10 _ =>
          .chk (.eqV (g l10 0) (.pointer (some ⟨r0, 6, none⟩))) <|
          .chk (.eqV (g l10 1) (.pointer (some ⟨r0, 7, none⟩))) <|
          .chk (.eqV (g l10 2) (.pointer (some ⟨r0, 8, none⟩))) <|
          .chk (.eqV (g l10 3) (.pointer (some ⟨r0, 9, none⟩))) <|
          .sw (g vs 39) 0 (
            .chk (.eqN r0 r0) <|
            .newbox fun r3 =>
            .prim (.bi .append #[22, 22] 22) [(g l5 6), (.slice (some ⟨r3, 0, none⟩) 1 1)] [⟨r3, 3, [(g vs 38)]⟩] [] .one fun l11 _ =>
            .chk (.eqN r0 r0) <|
            .chk (.eqN r0 r0) <|
            .chk (.eqN r1 r1) <|
            .chk (.eqN r1 r1) <|
            .ret (.tuple #[(.agg #[(g l5 0), (g l5 1), (g l5 2), (g l5 3), (g l5 4), (g l5 5), (g l11 0), (g l5 7), (g l5 8), (g l5 9), (g l5 10), (g l5 11), (g l5 12), (g l5 13), (g l5 14), (g l5 15), (g l5 16), (g l5 17), (g l5 18), (g l5 19), (g l5 20), (g l5 21), (g l5 22), (g l5 23), (g l5 24), (g l5 25), (g l5 26), (g l5 27), (g l5 28), (g l5 29), (g l5 30), (g l5 31), (g l5 32), (g l5 33), (g l5 34), (g l5 35), (g l5 36), (g l5 37)]), (.int .i64 0)]) []) (
            .sw (g vs 39) 1 (
              .chk (.eqN r0 r0) <|
              .newbox fun r4 =>
              .prim (.bi .append #[22, 22] 22) [(g l5 7), (.slice (some ⟨r4, 0, none⟩) 1 1)] [⟨r4, 3, [(g vs 38)]⟩] [] .one fun l12 _ =>
              .chk (.eqN r0 r0) <|
              .chk (.eqN r0 r0) <|
              .chk (.eqN r1 r1) <|
              .chk (.eqN r1 r1) <|
              .ret (.tuple #[(.agg #[(g l5 0), (g l5 1), (g l5 2), (g l5 3), (g l5 4), (g l5 5), (g l5 6), (g l12 0), (g l5 8), (g l5 9), (g l5 10), (g l5 11), (g l5 12), (g l5 13), (g l5 14), (g l5 15), (g l5 16), (g l5 17), (g l5 18), (g l5 19), (g l5 20), (g l5 21), (g l5 22), (g l5 23), (g l5 24), (g l5 25), (g l5 26), (g l5 27), (g l5 28), (g l5 29), (g l5 30), (g l5 31), (g l5 32), (g l5 33), (g l5 34), (g l5 35), (g l5 36), (g l5 37)]), (.int .i64 0)]) []) (
              .sw (g vs 39) 2 (
                .chk (.eqN r0 r0) <|
                .newbox fun r5 =>
                .prim (.bi .append #[22, 22] 22) [(g l5 8), (.slice (some ⟨r5, 0, none⟩) 1 1)] [⟨r5, 3, [(g vs 38)]⟩] [] .one fun l13 _ =>
                .chk (.eqN r0 r0) <|
                .chk (.eqN r0 r0) <|
                .chk (.eqN r1 r1) <|
                .chk (.eqN r1 r1) <|
                .ret (.tuple #[(.agg #[(g l5 0), (g l5 1), (g l5 2), (g l5 3), (g l5 4), (g l5 5), (g l5 6), (g l5 7), (g l13 0), (g l5 9), (g l5 10), (g l5 11), (g l5 12), (g l5 13), (g l5 14), (g l5 15), (g l5 16), (g l5 17), (g l5 18), (g l5 19), (g l5 20), (g l5 21), (g l5 22), (g l5 23), (g l5 24), (g l5 25), (g l5 26), (g l5 27), (g l5 28), (g l5 29), (g l5 30), (g l5 31), (g l5 32), (g l5 33), (g l5 34), (g l5 35), (g l5 36), (g l5 37)]), (.int .i64 0)]) []) (
                .sw (g vs 39) 3 (
                  .chk (.eqN r0 r0) <|
                  .newbox fun r6 =>
                  .prim (.bi .append #[22, 22] 22) [(g l5 9), (.slice (some ⟨r6, 0, none⟩) 1 1)] [⟨r6, 3, [(g vs 38)]⟩] [] .one fun l14 _ =>
                  .chk (.eqN r0 r0) <|
                  .chk (.eqN r0 r0) <|
                  .chk (.eqN r1 r1) <|
                  .chk (.eqN r1 r1) <|
                  .ret (.tuple #[(.agg #[(g l5 0), (g l5 1), (g l5 2), (g l5 3), (g l5 4), (g l5 5), (g l5 6), (g l5 7), (g l5 8), (g l14 0), (g l5 10), (g l5 11), (g l5 12), (g l5 13), (g l5 14), (g l5 15), (g l5 16), (g l5 17), (g l5 18), (g l5 19), (g l5 20), (g l5 21), (g l5 22), (g l5 23), (g l5 24), (g l5 25), (g l5 26), (g l5 27), (g l5 28), (g l5 29), (g l5 30), (g l5 31), (g l5 32), (g l5 33), (g l5 34), (g l5 35), (g l5 36), (g l5 37)]), (.int .i64 0)]) []) (
                  .stuck 901))))) (
          .sw (g l8 2) 1 (
            .call false 28 [(.pointer (some ⟨r0, 15, none⟩))] [] [] (.agg 4) fun l15 _ =>
            .chk (.eqV (g l15 0) (.pointer (some ⟨r0, 20, none⟩))) <|
            .chk (.eqV (g l15 1) (.pointer (some ⟨r0, 21, none⟩))) <|
            .chk (.eqV (g l15 2) (.pointer (some ⟨r0, 22, none⟩))) <|
            .chk (.eqV (g l15 3) (.pointer (some ⟨r0, 23, none⟩))) <|
            .sw (g vs 39) 0 (
              .chk (.eqN r0 r0) <|
              .newbox fun r7 =>
              .prim (.bi .append #[22, 22] 22) [(g l5 20), (.slice (some ⟨r7, 0, none⟩) 1 1)] [⟨r7, 3, [(g vs 38)]⟩] [] .one fun l16 _ =>
              .chk (.eqN r0 r0) <|
              .chk (.eqN r0 r0) <|
              .chk (.eqN r1 r1) <|
              .chk (.eqN r1 r1) <|
              .ret (.tuple #[(.agg #[(g l5 0), (g l5 1), (g l5 2), (g l5 3), (g l5 4), (g l5 5), (g l5 6), (g l5 7), (g l5 8), (g l5 9), (g l5 10), (g l5 11), (g l5 12), (g l5 13), (g l5 14), (g l5 15), (g l5 16), (g l5 17), (g l5 18), (g l5 19), (g l16 0), (g l5 21), (g l5 22), (g l5 23), (g l5 24), (g l5 25), (g l5 26), (g l5 27), (g l5 28), (g l5 29), (g l5 30), (g l5 31), (g l5 32), (g l5 33), (g l5 34), (g l5 35), (g l5 36), (g l5 37)]), (.int .i64 0)]) []) (
              .sw (g vs 39) 1 (
                .chk (.eqN r0 r0) <|
                .newbox fun r8 =>
                .prim (.bi .append #[22, 22] 22) [(g l5 21), (.slice (some ⟨r8, 0, none⟩) 1 1)] [⟨r8, 3, [(g vs 38)]⟩] [] .one fun l17 _ =>
                .chk (.eqN r0 r0) <|
                .chk (.eqN r0 r0) <|
                .chk (.eqN r1 r1) <|
                .chk (.eqN r1 r1) <|
                .ret (.tuple #[(.agg #[(g l5 0), (g l5 1), (g l5 2), (g l5 3), (g l5 4), (g l5 5), (g l5 6), (g l5 7), (g l5 8), (g l5 9), (g l5 10), (g l5 11), (g l5 12), (g l5 13), (g l5 14), (g l5 15), (g l5 16), (g l5 17), (g l5 18), (g l5 19), (g l5 20), (g l17 0), (g l5 22), (g l5 23), (g l5 24), (g l5 25), (g l5 26), (g l5 27), (g l5 28), (g l5 29), (g l5 30), (g l5 31), (g l5 32), (g l5 33), (g l5 34), (g l5 35), (g l5 36), (g l5 37)]), (.int .i64 0)]) []) (
                .sw (g vs 39) 2 (
                  .chk (.eqN r0 r0) <|
                  .newbox fun r9 =>
                  .prim (.bi .append #[22, 22] 22) [(g l5 22), (.slice (some ⟨r9, 0, none⟩) 1 1)] [⟨r9, 3, [(g vs 38)]⟩] [] .one fun l18 _ =>
                  .chk (.eqN r0 r0) <|
                  .chk (.eqN r0 r0) <|
                  .chk (.eqN r1 r1) <|
                  .chk (.eqN r1 r1) <|
                  .ret (.tuple #[(.agg #[(g l5 0), (g l5 1), (g l5 2), (g l5 3), (g l5 4), (g l5 5), (g l5 6), (g l5 7), (g l5 8), (g l5 9), (g l5 10), (g l5 11), (g l5 12), (g l5 13), (g l5 14), (g l5 15), (g l5 16), (g l5 17), (g l5 18), (g l5 19), (g l5 20), (g l5 21), (g l18 0), (g l5 23), (g l5 24), (g l5 25), (g l5 26), (g l5 27), (g l5 28), (g l5 29), (g l5 30), (g l5 31), (g l5 32), (g l5 33), (g l5 34), (g l5 35), (g l5 36), (g l5 37)]), (.int .i64 0)]) []) (
                  .sw (g vs 39) 3 (
                    .chk (.eqN r0 r0) <|
                    .newbox fun r10 =>
                    .prim (.bi .append #[22, 22] 22) [(g l5 23), (.slice (some ⟨r10, 0, none⟩) 1 1)] [⟨r10, 3, [(g vs 38)]⟩] [] .one fun l19 _ =>
                    .chk (.eqN r0 r0) <|
                    .chk (.eqN r0 r0) <|
                    .chk (.eqN r1 r1) <|
                    .chk (.eqN r1 r1) <|
                    .ret (.tuple #[(.agg #[(g l5 0), (g l5 1), (g l5 2), (g l5 3), (g l5 4), (g l5 5), (g l5 6), (g l5 7), (g l5 8), (g l5 9), (g l5 10), (g l5 11), (g l5 12), (g l5 13), (g l5 14), (g l5 15), (g l5 16), (g l5 17), (g l5 18), (g l5 19), (g l5 20), (g l5 21), (g l5 22), (g l19 0), (g l5 24), (g l5 25), (g l5 26), (g l5 27), (g l5 28), (g l5 29), (g l5 30), (g l5 31), (g l5 32), (g l5 33), (g l5 34), (g l5 35), (g l5 36), (g l5 37)]), (.int .i64 0)]) []) (
                    .stuck 901))))) (
            .stuck 901)))))
theorem T_board_Move_eq (vs : List Value) : sxFun PP Tryd.f12 (mkOpts okL [(28, [5, 6, 7, 8])] [] []) vs = T_board_Move vs := by kernel_rfl
theorem run_board_Move {args vs : List Value} (ha : entryArgs PP Tryd.f12 args = some vs) (ho : Ones vs) {H : Heap} {O : Own} {Q : Value → Heap → Own → Prop} (h : (T_board_Move vs).den PP Q H O) : Triple PP F_board_Move args H O Q :=
  triple_run mixed (mkOpts_ok okL_ok _ _ _) Tryd.func12 T_board_Move_eq ha ho h

abbrev F_board_Token : FuncId := 13
/- zeitnot/board.Token -/
def T_board_Token (vs : List Value) : Tree :=
  .newbox fun r0 =>
  .newbox fun r1 =>
  .chk (.eqN r0 r0) <|
  .call false 24 [(.agg #[(g vs 0), (g vs 1), (g vs 2), (g vs 3), (g vs 4), (g vs 5), (g vs 6), (g vs 7), (g vs 8), (g vs 9), (g vs 10), (g vs 11), (g vs 12), (g vs 13), (g vs 14), (g vs 15), (g vs 16), (g vs 17), (g vs 18), (g vs 19), (g vs 20), (g vs 21), (g vs 22), (g vs 23), (g vs 24), (g vs 25), (g vs 26), (g vs 27), (g vs 28), (g vs 29), (g vs 30), (g vs 31), (g vs 32), (g vs 33), (g vs 34), (g vs 35), (g vs 36), (g vs 37)])] [] [] .one fun l0 _ =>
  .pure [] .not [(g l0 0)] fun v1 =>
  .br v1 (
    .chk (.eqN r1 r1) <|
    .chk (.eqN r1 r1) <|
    .ret (.tuple #[(.agg #[(.slice none 0 0), (.int .i64 0), (.int .i64 0), (.int .i64 0), (.int .i64 0), (.int .i64 0), (.slice none 0 0), (.slice none 0 0), (.slice none 0 0), (.slice none 0 0), (.bool false), (.bool false), (.bool false), (.int .i64 0), (.int .i64 0), (.int .i64 0), (.int .i64 0), (.int .i64 0), (.int .i64 0), (.int .i64 0), (.slice none 0 0), (.slice none 0 0), (.slice none 0 0), (.slice none 0 0), (.bool false), (.bool false), (.bool false), (.int .i64 0), (.int .i64 0), (.slice none 0 0), (.slice none 0 0), (.slice none 0 0), (.slice none 0 0), (.int .i64 0), (.int .i64 0), (.int .i64 0), (.int .i64 0), (.int .i64 0)]), (.int .i64 0), (.int .i64 2)]) []) (
    .call false 18 [(g vs 38), (.int .i64 0), (.int .i64 1)] [] [] .one fun l2 _ =>
    .pure [] .not [(g l2 0)] fun v3 =>
    .br v3 (
      .chk (.eqN r1 r1) <|
      .chk (.eqN r1 r1) <|
      .ret (.tuple #[(.agg #[(.slice none 0 0), (.int .i64 0), (.int .i64 0), (.int .i64 0), (.int .i64 0), (.int .i64 0), (.slice none 0 0), (.slice none 0 0), (.slice none 0 0), (.slice none 0 0), (.bool false), (.bool false), (.bool false), (.int .i64 0), (.int .i64 0), (.int .i64 0), (.int .i64 0), (.int .i64 0), (.int .i64 0), (.int .i64 0), (.slice none 0 0), (.slice none 0 0), (.slice none 0 0), (.slice none 0 0), (.bool false), (.bool false), (.bool false), (.int .i64 0), (.int .i64 0), (.slice none 0 0), (.slice none 0 0), (.slice none 0 0), (.slice none 0 0), (.int .i64 0), (.int .i64 0), (.int .i64 0), (.int .i64 0), (.int .i64 0)]), (.int .i64 0), (.int .i64 2)]) []) (
      .chk (.eqN r0 r0) <|
      .call false 25 [(.agg #[(g vs 0), (g vs 1), (g vs 2), (g vs 3), (g vs 4), (g vs 5), (g vs 6), (g vs 7), (g vs 8), (g vs 9), (g vs 10), (g vs 11), (g vs 12), (g vs 13), (g vs 14), (g vs 15), (g vs 16), (g vs 17), (g vs 18), (g vs 19), (g vs 20), (g vs 21), (g vs 22), (g vs 23), (g vs 24), (g vs 25), (g vs 26), (g vs 27), (g vs 28), (g vs 29), (g vs 30), (g vs 31), (g vs 32), (g vs 33), (g vs 34), (g vs 35), (g vs 36), (g vs 37)])] [] [] (.agg 38) fun l4 _ =>
      .chk (.eqN r0 r0) <|
      .chk (.eqN r0 r0) <|
      .pure [] .len [(g l4 0)] fun v5 =>
      .pure [] (.bin .geq .int) [v5, (g vs 41)] fun v6 =>
      .br v6 (
        .chk (.eqN r0 r0) <|
        .chk (.eqN r1 r1) <|
        .chk (.eqN r1 r1) <|
        .ret (.tuple #[(.agg #[(g l4 0), (g l4 1), (g l4 2), (g l4 3), (g l4 4), (g l4 5), (g l4 6), (g l4 7), (g l4 8), (g l4 9), (g l4 10), (g l4 11), (g l4 12), (g l4 13), (g l4 14), (g l4 15), (g l4 16), (g l4 17), (g l4 18), (g l4 19), (g l4 20), (g l4 21), (g l4 22), (g l4 23), (g l4 24), (g l4 25), (g l4 26), (g l4 27), (g l4 28), (g l4 29), (g l4 30), (g l4 31), (g l4 32), (g l4 33), (g l4 34), (g l4 35), (g l4 36), (g l4 37)]), (.int .i64 0), (.int .i64 0)]) []) (
        .call false 29 [(.int .i64 500)] [] [] (.tup [none, none]) fun l7 _ =>
        .chk (.eqN r0 r0) <|
        .pure [] .len [(g l4 0)] fun v8 =>
        .loop 30 8 [(.int .i64 0)] fun C30 l9 =>
          .pure [] (.bin .lss .int) [(g l9 0), v8] fun v10 =>
          .br v10 (
            .pure [] (.idx 12) [(g l4 0), (g l9 0)] fun v11 =>
            .load [] v11 12 fun l12 =>
            .newbox fun r2 =>
            .chk (.eqN r2 r2) <|
            .chk (.eqN r2 r2) <|
            .call false 30 [(g l7 0), (g l12 0)] [] [] .one fun l13 _ =>
            .pure [] (.bin .add .int) [(g l9 0), (.int .i64 1)] fun v14 =>
            .cont 30 C30 [v14] [E [(g vs 38)], E [(g vs 39)], E [(g vs 40)], E [(.pointer (some ⟨r0, 0, none⟩))], E [(.pointer (some ⟨r1, 0, none⟩))], E [(g l7 0)], E [(g l4 0)], E [v8], E [(.pointer (some ⟨r0, 0, none⟩)), (g l4 0), (g l4 1), (g l4 2), (g l4 3), (g l4 4), (g l4 5), (g l4 6), (g l4 7), (g l4 8), (g l4 9), (g l4 10), (g l4 11), (g l4 12), (g l4 13), (g l4 14), (g l4 15), (g l4 16), (g l4 17), (g l4 18), (g l4 19), (g l4 20), (g l4 21), (g l4 22), (g l4 23), (g l4 24), (g l4 25), (g l4 26), (g l4 27), (g l4 28), (g l4 29), (g l4 30), (g l4 31), (g l4 32), (g l4 33), (g l4 34), (g l4 35), (g l4 36), (g l4 37)], E [(.pointer (some ⟨r1, 0, none⟩)), (.slice none 0 0), (.int .i64 0), (.int .i64 0), (.int .i64 0), (.int .i64 0), (.int .i64 0), (.slice none 0 0), (.slice none 0 0), (.slice none 0 0), (.slice none 0 0), (.bool false), (.bool false), (.bool false), (.int .i64 0), (.int .i64 0), (.int .i64 0), (.int .i64 0), (.int .i64 0), (.int .i64 0), (.int .i64 0), (.slice none 0 0), (.slice none 0 0), (.slice none 0 0), (.slice none 0 0), (.bool false), (.bool false), (.bool false), (.int .i64 0), (.int .i64 0), (.slice none 0 0), (.slice none 0 0), (.slice none 0 0), (.slice none 0 0), (.int .i64 0), (.int .i64 0), (.int .i64 0), (.int .i64 0), (.int .i64 0)]]) (
            .call false 31 [(g l7 0)] [] [] (.tup [none, none]) fun l15 _ =>
            .pure [] (.bin .neq .int) [(g l15 1), (.int .i64 0)] fun v16 =>
            .br v16 (
              .chk (.eqN r0 r0) <|
              .chk (.eqN r1 r1) <|
              .chk (.eqN r1 r1) <|
              .ret (.tuple #[(.agg #[(g l4 0), (g l4 1), (g l4 2), (g l4 3), (g l4 4), (g l4 5), (g l4 6), (g l4 7), (g l4 8), (g l4 9), (g l4 10), (g l4 11), (g l4 12), (g l4 13), (g l4 14), (g l4 15), (g l4 16), (g l4 17), (g l4 18), (g l4 19), (g l4 20), (g l4 21), (g l4 22), (g l4 23), (g l4 24), (g l4 25), (g l4 26), (g l4 27), (g l4 28), (g l4 29), (g l4 30), (g l4 31), (g l4 32), (g l4 33), (g l4 34), (g l4 35), (g l4 36), (g l4 37)]), (.int .i64 0), (.int .i64 0)]) []) (
              .call false 32 [(g l15 0), (g vs 38), (g vs 39), (g vs 40)] [] [] (.agg 12) fun l17 _ =>
              .newbox fun r3 =>
              .chk (.eqN r3 r3) <|
              .chk (.eqN r3 r3) <|
              .chk (.eqN r0 r0) <|
              .pure [] (.bin .sub .int) [(g l15 0), (.int .i64 1)] fun v18 =>
              .chk (.eqN r3 r3) <|
              .newbox fun r4 =>
              .call false 33 [(g l4 0), v18, (.slice (some ⟨r4, 0, none⟩) 1 1)] [⟨r4, 46, [(g l17 0), (g l17 1), (g l17 2), (g l17 3), (g l17 4), (g l17 5), (g l17 6), (g l17 7), (g l17 8), (g l17 9), (.bool true), (g l17 11)]⟩] [] .one fun l19 _ =>
              .chk (.eqN r0 r0) <|
              .sw (g vs 38) 0 (
                .chk (.eqN r0 r0) <|
                .newbox fun r5 =>
                .prim (.bi .append #[22, 22] 22) [(g l4 8), (.slice (some ⟨r5, 0, none⟩) 1 1)] [⟨r5, 3, [(g l15 0)]⟩] [] .one fun l20 _ =>
                .sw (g vs 38) 0 (
                  .chk (.eqN r0 r0) <|
                  .chk (.eqN r0 r0) <|
                  .chk (.eqN r1 r1) <|
                  .chk (.eqN r1 r1) <|
                  .ret (.tuple #[(.agg #[(g l19 0), (g l4 1), (g l4 2), (g l4 3), (g l4 4), (g l4 5), (g l4 6), (g l4 7), (g l20 0), (g l4 9), (g l4 10), (g l4 11), (g l4 12), (g l4 13), (g l4 14), (g l4 15), (g l4 16), (g l4 17), (g l4 18), (g l4 19), (g l4 20), (g l4 21), (g l4 22), (g l4 23), (g l4 24), (g l4 25), (g l4 26), (g l4 27), (g l4 28), (g l4 29), (g l4 30), (g l4 31), (g l4 32), (g l4 33), (g l4 34), (g l4 35), (g l4 36), (g l4 37)]), (g l15 0), (.int .i64 0)]) []) (
                  .sw (g vs 38) 1 (
                    .chk (.eqN r0 r0) <|
                    .chk (.eqN r0 r0) <|
                    .chk (.eqN r1 r1) <|
                    .chk (.eqN r1 r1) <|
                    .ret (.tuple #[(.agg #[(g l19 0), (g l4 1), (g l4 2), (g l4 3), (g l4 4), (g l4 5), (g l4 6), (g l4 7), (g l4 8), (g l4 9), (g l4 10), (g l4 11), (g l4 12), (g l4 13), (g l4 14), (g l4 15), (g l4 16), (g l4 17), (g l4 18), (g l4 19), (g l4 20), (g l4 21), (g l20 0), (g l4 23), (g l4 24), (g l4 25), (g l4 26), (g l4 27), (g l4 28), (g l4 29), (g l4 30), (g l4 31), (g l4 32), (g l4 33), (g l4 34), (g l4 35), (g l4 36), (g l4 37)]), (g l15 0), (.int .i64 0)]) []) (
                    .stuck 901))) (
                .sw (g vs 38) 1 (
                  .chk (.eqN r0 r0) <|
                  .newbox fun r6 =>
                  .prim (.bi .append #[22, 22] 22) [(g l4 22), (.slice (some ⟨r6, 0, none⟩) 1 1)] [⟨r6, 3, [(g l15 0)]⟩] [] .one fun l21 _ =>
                  .sw (g vs 38) 0 (
                    .chk (.eqN r0 r0) <|
                    .chk (.eqN r0 r0) <|
                    .chk (.eqN r1 r1) <|
                    .chk (.eqN r1 r1) <|
                    .ret (.tuple #[(.agg #[(g l19 0), (g l4 1), (g l4 2), (g l4 3), (g l4 4), (g l4 5), (g l4 6), (g l4 7), (g l21 0), (g l4 9), (g l4 10), (g l4 11), (g l4 12), (g l4 13), (g l4 14), (g l4 15), (g l4 16), (g l4 17), (g l4 18), (g l4 19), (g l4 20), (g l4 21), (g l4 22), (g l4 23), (g l4 24), (g l4 25), (g l4 26), (g l4 27), (g l4 28), (g l4 29), (g l4 30), (g l4 31), (g l4 32), (g l4 33), (g l4 34), (g l4 35), (g l4 36), (g l4 37)]), (g l15 0), (.int .i64 0)]) []) (
                    .sw (g vs 38) 1 (
                      .chk (.eqN r0 r0) <|
                      .chk (.eqN r0 r0) <|
                      .chk (.eqN r1 r1) <|
                      .chk (.eqN r1 r1) <|
                      .ret (.tuple #[(.agg #[(g l19 0), (g l4 1), (g l4 2), (g l4 3), (g l4 4), (g l4 5), (g l4 6), (g l4 7), (g l4 8), (g l4 9), (g l4 10), (g l4 11), (g l4 12), (g l4 13), (g l4 14), (g l4 15), (g l4 16), (g l4 17), (g l4 18), (g l4 19), (g l4 20), (g l4 21), (g l21 0), (g l4 23), (g l4 24), (g l4 25), (g l4 26), (g l4 27), (g l4 28), (g l4 29), (g l4 30), (g l4 31), (g l4 32), (g l4 33), (g l4 34), (g l4 35), (g l4 36), (g l4 37)]), (g l15 0), (.int .i64 0)]) []) (
                      .stuck 901))) (
                  .stuck 901)))))))
theorem T_board_Token_eq (vs : List Value) : sxFun PP Tryd.f13 (mkOpts okL [(28, [5, 6, 7, 8])] [(8, .inv [44] [1, 2, 3, 5, 10, 13, 42, 43] [(5, []), (10, [])])] []) vs = T_board_Token vs := by kernel_rfl
theorem run_board_Token {args vs : List Value} (ha : entryArgs PP Tryd.f13 args = some vs) (ho : Ones vs) {H : Heap} {O : Own} {Q : Value → Heap → Own → Prop} (h : (T_board_Token vs).den PP Q H O) : Triple PP F_board_Token args H O Q :=
  triple_run mixed (mkOpts_ok okL_ok _ _ _) Tryd.func13 T_board_Token_eq ha ho h

abbrev F_board_Creatures : FuncId := 14
/- zeitnot/board.Creatures -/
def T_board_Creatures (vs : List Value) : Tree :=
  .newbox fun r0 =>
  .call false 18 [(g vs 39), (.int .i64 0), (.int .i64 1)] [] [] .one fun l0 _ =>
  .pure [] .not [(g l0 0)] fun v1 =>
  .br v1 (
    .ret (.slice none 0 0) []) (
    .chk (.eqN r0 r0) <|
    .call false 24 [(.agg #[(g vs 1), (g vs 2), (g vs 3), (g vs 4), (g vs 5), (g vs 6), (g vs 7), (g vs 8), (g vs 9), (g vs 10), (g vs 11), (g vs 12), (g vs 13), (g vs 14), (g vs 15), (g vs 16), (g vs 17), (g vs 18), (g vs 19), (g vs 20), (g vs 21), (g vs 22), (g vs 23), (g vs 24), (g vs 25), (g vs 26), (g vs 27), (g vs 28), (g vs 29), (g vs 30), (g vs 31), (g vs 32), (g vs 33), (g vs 34), (g vs 35), (g vs 36), (g vs 37), (g vs 38)])] [] [] .one fun l2 _ =>
    .pure [] .not [(g l2 0)] fun v3 =>
    .br v3 (
      .ret (.slice none 0 0) []) (
      .chk (.eqN r0 r0) <|
      .pure [] .len [(g vs 1)] fun v4 =>
      .loop 15 5 [(.slice none 0 0), (.int .i64 0)] fun C15 l5 =>
        .pure [] (.bin .lss .int) [(g l5 1), v4] fun v6 =>
        .br v6 (
          .pure [] (.idx 12) [(g vs 1), (g l5 1)] fun v7 =>
          .load [] v7 12 fun l8 =>
          .newbox fun r1 =>
          .chk (.eqN r1 r1) <|
          .chk (.eqN r1 r1) <|
          .pure [] (.bin .eql .int) [(g l8 2), (g vs 39)] fun v9 =>
          .br v9 (
            .chk (.eqN r1 r1) <|
            .call true 34 [(g vs 0), (.agg #[(g l8 0), (g l8 1), (g l8 2), (g l8 3), (g l8 4), (g l8 5), (g l8 6), (g l8 7), (g l8 8), (g l8 9), (g l8 10), (g l8 11)])] [] [] .one fun l10 _ =>
            .br (g l10 0) (
              .sw (g vs 39) 0 (
                .chk (.eqN r0 r0) <|
                .chk (.eqN r1 r1) <|
                .call true 35 [(g vs 9), (g l8 0)] [] [] .one fun l11 _ =>
                .br (g l11 0) (
                  .chk (.eqN r1 r1) <|
                  .newbox fun r2 =>
                  .prim (.bi .append #[22, 22] 22) [(g l5 0), (.slice (some ⟨r2, 0, none⟩) 1 1)] [⟨r2, 3, [(g l8 0)]⟩] [] .one fun l12 _ =>
                  .pure [] (.bin .add .int) [(g l5 1), (.int .i64 1)] fun v13 =>
                  .cont 15 C15 [(g l12 0), v13] [E [(g vs 0)], E [(g vs 39)], E [(.pointer (some ⟨r0, 0, none⟩))], E [(g vs 1)], E [v4], E [(.pointer (some ⟨r0, 0, none⟩)), (g vs 1), (g vs 2), (g vs 3), (g vs 4), (g vs 5), (g vs 6), (g vs 7), (g vs 8), (g vs 9), (g vs 10), (g vs 11), (g vs 12), (g vs 13), (g vs 14), (g vs 15), (g vs 16), (g vs 17), (g vs 18), (g vs 19), (g vs 20), (g vs 21), (g vs 22), (g vs 23), (g vs 24), (g vs 25), (g vs 26), (g vs 27), (g vs 28), (g vs 29), (g vs 30), (g vs 31), (g vs 32), (g vs 33), (g vs 34), (g vs 35), (g vs 36), (g vs 37), (g vs 38)]]) (
                  .pure [] (.bin .add .int) [(g l5 1), (.int .i64 1)] fun v14 =>
                  .cont 15 C15 [(g l5 0), v14] [E [(g vs 0)], E [(g vs 39)], E [(.pointer (some ⟨r0, 0, none⟩))], E [(g vs 1)], E [v4], E [(.pointer (some ⟨r0, 0, none⟩)), (g vs 1), (g vs 2), (g vs 3), (g vs 4), (g vs 5), (g vs 6), (g vs 7), (g vs 8), (g vs 9), (g vs 10), (g vs 11), (g vs 12), (g vs 13), (g vs 14), (g vs 15), (g vs 16), (g vs 17), (g vs 18), (g vs 19), (g vs 20), (g vs 21), (g vs 22), (g vs 23), (g vs 24), (g vs 25), (g vs 26), (g vs 27), (g vs 28), (g vs 29), (g vs 30), (g vs 31), (g vs 32), (g vs 33), (g vs 34), (g vs 35), (g vs 36), (g vs 37), (g vs 38)]])) (
                .sw (g vs 39) 1 (
                  .chk (.eqN r0 r0) <|
                  .chk (.eqN r1 r1) <|
                  .call true 35 [(g vs 23), (g l8 0)] [] [] .one fun l15 _ =>
                  .br (g l15 0) (
                    .chk (.eqN r1 r1) <|
                    .newbox fun r3 =>
                    .prim (.bi .append #[22, 22] 22) [(g l5 0), (.slice (some ⟨r3, 0, none⟩) 1 1)] [⟨r3, 3, [(g l8 0)]⟩] [] .one fun l16 _ =>
                    .pure [] (.bin .add .int) [(g l5 1), (.int .i64 1)] fun v17 =>
                    .cont 15 C15 [(g l16 0), v17] [E [(g vs 0)], E [(g vs 39)], E [(.pointer (some ⟨r0, 0, none⟩))], E [(g vs 1)], E [v4], E [(.pointer (some ⟨r0, 0, none⟩)), (g vs 1), (g vs 2), (g vs 3), (g vs 4), (g vs 5), (g vs 6), (g vs 7), (g vs 8), (g vs 9), (g vs 10), (g vs 11), (g vs 12), (g vs 13), (g vs 14), (g vs 15), (g vs 16), (g vs 17), (g vs 18), (g vs 19), (g vs 20), (g vs 21), (g vs 22), (g vs 23), (g vs 24), (g vs 25), (g vs 26), (g vs 27), (g vs 28), (g vs 29), (g vs 30), (g vs 31), (g vs 32), (g vs 33), (g vs 34), (g vs 35), (g vs 36), (g vs 37), (g vs 38)]]) (
                    .pure [] (.bin .add .int) [(g l5 1), (.int .i64 1)] fun v18 =>
                    .cont 15 C15 [(g l5 0), v18] [E [(g vs 0)], E [(g vs 39)], E [(.pointer (some ⟨r0, 0, none⟩))], E [(g vs 1)], E [v4], E [(.pointer (some ⟨r0, 0, none⟩)), (g vs 1), (g vs 2), (g vs 3), (g vs 4), (g vs 5), (g vs 6), (g vs 7), (g vs 8), (g vs 9), (g vs 10), (g vs 11), (g vs 12), (g vs 13), (g vs 14), (g vs 15), (g vs 16), (g vs 17), (g vs 18), (g vs 19), (g vs 20), (g vs 21), (g vs 22), (g vs 23), (g vs 24), (g vs 25), (g vs 26), (g vs 27), (g vs 28), (g vs 29), (g vs 30), (g vs 31), (g vs 32), (g vs 33), (g vs 34), (g vs 35), (g vs 36), (g vs 37), (g vs 38)]])) (
                  .stuck 901))) (
              .pure [] (.bin .add .int) [(g l5 1), (.int .i64 1)] fun v19 =>
              .cont 15 C15 [(g l5 0), v19] [E [(g vs 0)], E [(g vs 39)], E [(.pointer (some ⟨r0, 0, none⟩))], E [(g vs 1)], E [v4], E [(.pointer (some ⟨r0, 0, none⟩)), (g vs 1), (g vs 2), (g vs 3), (g vs 4), (g vs 5), (g vs 6), (g vs 7), (g vs 8), (g vs 9), (g vs 10), (g vs 11), (g vs 12), (g vs 13), (g vs 14), (g vs 15), (g vs 16), (g vs 17), (g vs 18), (g vs 19), (g vs 20), (g vs 21), (g vs 22), (g vs 23), (g vs 24), (g vs 25), (g vs 26), (g vs 27), (g vs 28), (g vs 29), (g vs 30), (g vs 31), (g vs 32), (g vs 33), (g vs 34), (g vs 35), (g vs 36), (g vs 37), (g vs 38)]])) (
            .pure [] (.bin .add .int) [(g l5 1), (.int .i64 1)] fun v20 =>
            .cont 15 C15 [(g l5 0), v20] [E [(g vs 0)], E [(g vs 39)], E [(.pointer (some ⟨r0, 0, none⟩))], E [(g vs 1)], E [v4], E [(.pointer (some ⟨r0, 0, none⟩)), (g vs 1), (g vs 2), (g vs 3), (g vs 4), (g vs 5), (g vs 6), (g vs 7), (g vs 8), (g vs 9), (g vs 10), (g vs 11), (g vs 12), (g vs 13), (g vs 14), (g vs 15), (g vs 16), (g vs 17), (g vs 18), (g vs 19), (g vs 20), (g vs 21), (g vs 22), (g vs 23), (g vs 24), (g vs 25), (g vs 26), (g vs 27), (g vs 28), (g vs 29), (g vs 30), (g vs 31), (g vs 32), (g vs 33), (g vs 34), (g vs 35), (g vs 36), (g vs 37), (g vs 38)]])) (
          .ret (g l5 0) [])))
theorem T_board_Creatures_eq (vs : List Value) : sxFun PP Tryd.f14 (mkOpts okL [(28, [5, 6, 7, 8])] [(5, .inv [7, 21] [0, 2, 4, 19, 20] [(4, [])])] []) vs = T_board_Creatures vs := by kernel_rfl
theorem run_board_Creatures {args vs : List Value} (ha : entryArgs PP Tryd.f14 args = some vs) (ho : Ones vs) {H : Heap} {O : Own} {Q : Value → Heap → Own → Prop} (h : (T_board_Creatures vs).den PP Q H O) : Triple PP F_board_Creatures args H O Q :=
  triple_run mixed (mkOpts_ok okL_ok _ _ _) Tryd.func14 T_board_Creatures_eq ha ho h

abbrev F_board_Set : FuncId := 15
/- zeitnot/board.Set -/
def T_board_Set (vs : List Value) : Tree :=
  .newbox fun r0 =>
  .newbox fun r1 =>
  .newbox fun r2 =>
  .chk (.eqN r1 r1) <|
  .call false 36 [(.agg #[(g vs 38), (g vs 39), (g vs 40), (g vs 41), (g vs 42), (g vs 43), (g vs 44), (g vs 45), (g vs 46), (g vs 47), (g vs 48), (g vs 49)])] [] [] .one fun l0 _ =>
  .pure [] .not [(g l0 0)] fun v1 =>
  .br v1 (
    .chk (.eqN r2 r2) <|
    .chk (.eqN r2 r2) <|
    .ret (.tuple #[(.agg #[(.slice none 0 0), (.int .i64 0), (.int .i64 0), (.int .i64 0), (.int .i64 0), (.int .i64 0), (.slice none 0 0), (.slice none 0 0), (.slice none 0 0), (.slice none 0 0), (.bool false), (.bool false), (.bool false), (.int .i64 0), (.int .i64 0), (.int .i64 0), (.int .i64 0), (.int .i64 0), (.int .i64 0), (.int .i64 0), (.slice none 0 0), (.slice none 0 0), (.slice none 0 0), (.slice none 0 0), (.bool false), (.bool false), (.bool false), (.int .i64 0), (.int .i64 0), (.slice none 0 0), (.slice none 0 0), (.slice none 0 0), (.slice none 0 0), (.int .i64 0), (.int .i64 0), (.int .i64 0), (.int .i64 0), (.int .i64 0)]), (.int .i64 2)]) []) (
    .chk (.eqN r0 r0) <|
    .chk (.eqN r1 r1) <|
    .call false 23 [(.agg #[(g vs 0), (g vs 1), (g vs 2), (g vs 3), (g vs 4), (g vs 5), (g vs 6), (g vs 7), (g vs 8), (g vs 9), (g vs 10), (g vs 11), (g vs 12), (g vs 13), (g vs 14), (g vs 15), (g vs 16), (g vs 17), (g vs 18), (g vs 19), (g vs 20), (g vs 21), (g vs 22), (g vs 23), (g vs 24), (g vs 25), (g vs 26), (g vs 27), (g vs 28), (g vs 29), (g vs 30), (g vs 31), (g vs 32), (g vs 33), (g vs 34), (g vs 35), (g vs 36), (g vs 37)]), (g vs 38)] [] [] (.tup [none, none]) fun l2 _ =>
    .pure [] (.bin .neq .int) [(g l2 1), (.int .i64 0)] fun v3 =>
    .br v3 (
      .chk (.eqN r2 r2) <|
      .chk (.eqN r2 r2) <|
      .ret (.tuple #[(.agg #[(.slice none 0 0), (.int .i64 0), (.int .i64 0), (.int .i64 0), (.int .i64 0), (.int .i64 0), (.slice none 0 0), (.slice none 0 0), (.slice none 0 0), (.slice none 0 0), (.bool false), (.bool false), (.bool false), (.int .i64 0), (.int .i64 0), (.int .i64 0), (.int .i64 0), (.int .i64 0), (.int .i64 0), (.int .i64 0), (.slice none 0 0), (.slice none 0 0), (.slice none 0 0), (.slice none 0 0), (.bool false), (.bool false), (.bool false), (.int .i64 0), (.int .i64 0), (.slice none 0 0), (.slice none 0 0), (.slice none 0 0), (.slice none 0 0), (.int .i64 0), (.int .i64 0), (.int .i64 0), (.int .i64 0), (.int .i64 0)]), (g l2 1)]) []) (
      .chk (.eqN r0 r0) <|
      .pure [] (.idx 12) [(g vs 0), (g l2 0)] fun v4 =>
      .load [] v4 12 fun l5 =>
      .newbox fun r3 =>
      .chk (.eqN r3 r3) <|
      .chk (.eqN r3 r3) <|
      .chk (.eqN r1 r1) <|
      .pure [] (.bin .neq .int) [(g l5 1), (g vs 39)] fun v6 =>
      .chk (.eqN r3 r3) <|
      .chk (.eqV v6 v6) <|
      .chk (.eqN r1 r1) <|
      .chk (.eqV v6 v6) <|
      .chk (.eqV v6 v6) <|
      .chk (.eqV v6 v6) <|
      .pure [] (.bin .neq .int) [(g l5 2), (g vs 40)] fun v7 =>
      .chk (.eqV v6 v6) <|
      .pure [] .pick [v6, (.bool true), v7] fun v8 =>
      .br v8 (
        .chk (.eqN r2 r2) <|
        .chk (.eqN r2 r2) <|
        .ret (.tuple #[(.agg #[(.slice none 0 0), (.int .i64 0), (.int .i64 0), (.int .i64 0), (.int .i64 0), (.int .i64 0), (.slice none 0 0), (.slice none 0 0), (.slice none 0 0), (.slice none 0 0), (.bool false), (.bool false), (.bool false), (.int .i64 0), (.int .i64 0), (.int .i64 0), (.int .i64 0), (.int .i64 0), (.int .i64 0), (.int .i64 0), (.slice none 0 0), (.slice none 0 0), (.slice none 0 0), (.slice none 0 0), (.bool false), (.bool false), (.bool false), (.int .i64 0), (.int .i64 0), (.slice none 0 0), (.slice none 0 0), (.slice none 0 0), (.slice none 0 0), (.int .i64 0), (.int .i64 0), (.int .i64 0), (.int .i64 0), (.int .i64 0)]), (.int .i64 8)]) []) (
        .chk (.eqN r0 r0) <|
        .call false 25 [(.agg #[(g vs 0), (g vs 1), (g vs 2), (g vs 3), (g vs 4), (g vs 5), (g vs 6), (g vs 7), (g vs 8), (g vs 9), (g vs 10), (g vs 11), (g vs 12), (g vs 13), (g vs 14), (g vs 15), (g vs 16), (g vs 17), (g vs 18), (g vs 19), (g vs 20), (g vs 21), (g vs 22), (g vs 23), (g vs 24), (g vs 25), (g vs 26), (g vs 27), (g vs 28), (g vs 29), (g vs 30), (g vs 31), (g vs 32), (g vs 33), (g vs 34), (g vs 35), (g vs 36), (g vs 37)])] [] [] (.agg 38) fun l9 _ =>
        .chk (.eqN r0 r0) <|
        .chk (.eqN r0 r0) <|
        .chk (.eqN r1 r1) <|
        .pure [] (.idx 12) [(g l9 0), (g l2 0)] fun v10 =>
        .chk (.ptr [] v10) <|
        .store v10 [(g vs 38), (g vs 39), (g vs 40), (g vs 41), (g vs 42), (g vs 43), (g vs 44), (g vs 45), (g vs 46), (g vs 47), (g vs 48), (g vs 49)] <|
        .chk (.eqN r0 r0) <|
        .chk (.eqN r2 r2) <|
        .chk (.eqN r2 r2) <|
        .ret (.tuple #[(.agg #[(g l9 0), (g l9 1), (g l9 2), (g l9 3), (g l9 4), (g l9 5), (g l9 6), (g l9 7), (g l9 8), (g l9 9), (g l9 10), (g l9 11), (g l9 12), (g l9 13), (g l9 14), (g l9 15), (g l9 16), (g l9 17), (g l9 18), (g l9 19), (g l9 20), (g l9 21), (g l9 22), (g l9 23), (g l9 24), (g l9 25), (g l9 26), (g l9 27), (g l9 28), (g l9 29), (g l9 30), (g l9 31), (g l9 32), (g l9 33), (g l9 34), (g l9 35), (g l9 36), (g l9 37)]), (.int .i64 0)]) [])))
theorem T_board_Set_eq (vs : List Value) : sxFun PP Tryd.f15 (mkOpts okL [(28, [5, 6, 7, 8])] [] []) vs = T_board_Set vs := by kernel_rfl
theorem run_board_Set {args vs : List Value} (ha : entryArgs PP Tryd.f15 args = some vs) (ho : Ones vs) {H : Heap} {O : Own} {Q : Value → Heap → Own → Prop} (h : (T_board_Set vs).den PP Q H O) : Triple PP F_board_Set args H O Q :=
  triple_run mixed (mkOpts_ok okL_ok _ _ _) Tryd.func15 T_board_Set_eq ha ho h

abbrev F_board_Equal : FuncId := 16
/- zeitnot/board.Equal -/
def T_board_Equal (vs : List Value) : Tree :=
  .newbox fun r0 =>
  .newbox fun r1 =>
  .chk (.eqN r0 r0) <|
  .chk (.eqN r1 r1) <|
  .pure [] (.bin .neq .int) [(g vs 1), (g vs 39)] fun v0 =>
  .chk (.eqV v0 v0) <|
  .chk (.eqV v0 v0) <|
  .chk (.eqN r0 r0) <|
  .chk (.eqV v0 v0) <|
  .chk (.eqV v0 v0) <|
  .chk (.eqV v0 v0) <|
  .chk (.eqN r1 r1) <|
  .chk (.eqV v0 v0) <|
  .chk (.eqV v0 v0) <|
  .chk (.eqV v0 v0) <|
  .raw [(v0, false)] (.eqv .neq 26 false) [(.agg #[(g vs 2), (g vs 3), (g vs 4), (g vs 5)]), (.agg #[(g vs 40), (g vs 41), (g vs 42), (g vs 43)])] fun v1 =>
  .chk (.eqV v0 v0) <|
  .pure [] .pick [v0, (.bool true), v1] fun v2 =>
  .chk (.eqV v2 v2) <|
  .chk (.eqV v2 v2) <|
  .chk (.eqN r0 r0) <|
  .chk (.eqV v2 v2) <|
  .chk (.eqV v2 v2) <|
  .chk (.eqV v2 v2) <|
  .chk (.eqN r1 r1) <|
  .chk (.eqV v2 v2) <|
  .chk (.eqV v2 v2) <|
  .chk (.eqV v2 v2) <|
  .pure [] (.bin .neq .bool) [(g vs 10), (g vs 48)] fun v3 =>
  .chk (.eqV v2 v2) <|
  .pure [] .pick [v2, (.bool true), v3] fun v4 =>
  .chk (.eqV v4 v4) <|
  .chk (.eqV v4 v4) <|
  .chk (.eqN r0 r0) <|
  .chk (.eqV v4 v4) <|
  .chk (.eqV v4 v4) <|
  .chk (.eqV v4 v4) <|
  .chk (.eqN r1 r1) <|
  .chk (.eqV v4 v4) <|
  .chk (.eqV v4 v4) <|
  .chk (.eqV v4 v4) <|
  .pure [] (.bin .neq .bool) [(g vs 11), (g vs 49)] fun v5 =>
  .chk (.eqV v4 v4) <|
  .pure [] .pick [v4, (.bool true), v5] fun v6 =>
  .chk (.eqV v6 v6) <|
  .chk (.eqV v6 v6) <|
  .chk (.eqN r0 r0) <|
  .chk (.eqV v6 v6) <|
  .chk (.eqV v6 v6) <|
  .chk (.eqV v6 v6) <|
  .chk (.eqN r1 r1) <|
  .chk (.eqV v6 v6) <|
  .chk (.eqV v6 v6) <|
  .chk (.eqV v6 v6) <|
  .pure [] (.bin .neq .bool) [(g vs 12), (g vs 50)] fun v7 =>
  .chk (.eqV v6 v6) <|
  .pure [] .pick [v6, (.bool true), v7] fun v8 =>
  .chk (.eqV v8 v8) <|
  .chk (.eqV v8 v8) <|
  .chk (.eqN r0 r0) <|
  .chk (.eqV v8 v8) <|
  .chk (.eqV v8 v8) <|
  .chk (.eqV v8 v8) <|
  .chk (.eqN r1 r1) <|
  .chk (.eqV v8 v8) <|
  .chk (.eqV v8 v8) <|
  .chk (.eqV v8 v8) <|
  .pure [] (.bin .neq .int) [(g vs 13), (g vs 51)] fun v9 =>
  .chk (.eqV v8 v8) <|
  .pure [] .pick [v8, (.bool true), v9] fun v10 =>
  .chk (.eqV v10 v10) <|
  .chk (.eqV v10 v10) <|
  .chk (.eqN r0 r0) <|
  .chk (.eqV v10 v10) <|
  .chk (.eqV v10 v10) <|
  .chk (.eqV v10 v10) <|
  .chk (.eqN r1 r1) <|
  .chk (.eqV v10 v10) <|
  .chk (.eqV v10 v10) <|
  .chk (.eqV v10 v10) <|
  .pure [] (.bin .neq .int) [(g vs 14), (g vs 52)] fun v11 =>
  .chk (.eqV v10 v10) <|
  .pure [] .pick [v10, (.bool true), v11] fun v12 =>
  .br v12 (
    .ret (.bool false) []) (
    .call false 28 [(.pointer (some ⟨r1, 1, none⟩))] [] [] (.agg 4) fun l13 _ =>
    .chk (.eqV (g l13 0) (.pointer (some ⟨r1, 6, none⟩))) <|
    .chk (.eqV (g l13 1) (.pointer (some ⟨r1, 7, none⟩))) <|
    .chk (.eqV (g l13 2) (.pointer (some ⟨r1, 8, none⟩))) <|
    .chk (.eqV (g l13 3) (.pointer (some ⟨r1, 9, none⟩))) <|
    .newbox fun r2 =>
    .chk (.eqN r2 r2) <|
    .call false 28 [(.pointer (some ⟨r0, 1, none⟩))] [] [] (.agg 4) fun l14 _ =>
    .chk (.eqV (g l14 0) (.pointer (some ⟨r0, 6, none⟩))) <|
    .chk (.eqV (g l14 1) (.pointer (some ⟨r0, 7, none⟩))) <|
    .chk (.eqV (g l14 2) (.pointer (some ⟨r0, 8, none⟩))) <|
    .chk (.eqV (g l14 3) (.pointer (some ⟨r0, 9, none⟩))) <|
    .chk (.eqN r0 r0) <|
    .chk (.eqN r2 r2) <|
    .chk (.eqN r1 r1) <|
    .call true 37 [(g vs 6), (g vs 44)] [] [] .one fun l15 _ =>
    .pure [] .not [(g l15 0)] fun v16 =>
    .br v16 (
      .ret (.bool false) []) (
      .chk (.eqN r0 r0) <|
      .chk (.eqN r2 r2) <|
      .chk (.eqN r1 r1) <|
      .call true 37 [(g vs 7), (g vs 45)] [] [] .one fun l17 _ =>
      .pure [] .not [(g l17 0)] fun v18 =>
      .br v18 (
        .ret (.bool false) []) (
        .chk (.eqN r0 r0) <|
        .chk (.eqN r2 r2) <|
        .chk (.eqN r1 r1) <|
        .call true 37 [(g vs 8), (g vs 46)] [] [] .one fun l19 _ =>
        .pure [] .not [(g l19 0)] fun v20 =>
        .br v20 (
          .ret (.bool false) []) (
          .chk (.eqN r0 r0) <|
          .chk (.eqN r2 r2) <|
          .chk (.eqN r1 r1) <|
          .call true 37 [(g vs 9), (g vs 47)] [] [] .one fun l21 _ =>
          .pure [] .not [(g l21 0)] fun v22 =>
          .br v22 (
            .ret (.bool false) []) (
            .chk (.eqN r0 r0) <|
            .chk (.eqN r1 r1) <|
            .pure [] (.bin .neq .int) [(g vs 15), (g vs 53)] fun v23 =>
            .chk (.eqV v23 v23) <|
            .chk (.eqV v23 v23) <|
            .chk (.eqN r0 r0) <|
            .chk (.eqV v23 v23) <|
            .chk (.eqV v23 v23) <|
            .chk (.eqV v23 v23) <|
            .chk (.eqN r1 r1) <|
            .chk (.eqV v23 v23) <|
            .chk (.eqV v23 v23) <|
            .chk (.eqV v23 v23) <|
            .raw [(v23, false)] (.eqv .neq 26 false) [(.agg #[(g vs 16), (g vs 17), (g vs 18), (g vs 19)]), (.agg #[(g vs 54), (g vs 55), (g vs 56), (g vs 57)])] fun v24 =>
            .chk (.eqV v23 v23) <|
            .pure [] .pick [v23, (.bool true), v24] fun v25 =>
            .chk (.eqV v25 v25) <|
            .chk (.eqV v25 v25) <|
            .chk (.eqN r0 r0) <|
            .chk (.eqV v25 v25) <|
            .chk (.eqV v25 v25) <|
            .chk (.eqV v25 v25) <|
            .chk (.eqN r1 r1) <|
            .chk (.eqV v25 v25) <|
            .chk (.eqV v25 v25) <|
            .chk (.eqV v25 v25) <|
            .pure [] (.bin .neq .bool) [(g vs 24), (g vs 62)] fun v26 =>
            .chk (.eqV v25 v25) <|
            .pure [] .pick [v25, (.bool true), v26] fun v27 =>
            .chk (.eqV v27 v27) <|
            .chk (.eqV v27 v27) <|
            .chk (.eqN r0 r0) <|
            .chk (.eqV v27 v27) <|
            .chk (.eqV v27 v27) <|
            .chk (.eqV v27 v27) <|
            .chk (.eqN r1 r1) <|
            .chk (.eqV v27 v27) <|
            .chk (.eqV v27 v27) <|
            .chk (.eqV v27 v27) <|
            .pure [] (.bin .neq .bool) [(g vs 25), (g vs 63)] fun v28 =>
            .chk (.eqV v27 v27) <|
            .pure [] .pick [v27, (.bool true), v28] fun v29 =>
            .chk (.eqV v29 v29) <|
            .chk (.eqV v29 v29) <|
            .chk (.eqN r0 r0) <|
            .chk (.eqV v29 v29) <|
            .chk (.eqV v29 v29) <|
            .chk (.eqV v29 v29) <|
            .chk (.eqN r1 r1) <|
            .chk (.eqV v29 v29) <|
            .chk (.eqV v29 v29) <|
            .chk (.eqV v29 v29) <|
            .pure [] (.bin .neq .bool) [(g vs 26), (g vs 64)] fun v30 =>
            .chk (.eqV v29 v29) <|
            .pure [] .pick [v29, (.bool true), v30] fun v31 =>
            .chk (.eqV v31 v31) <|
            .chk (.eqV v31 v31) <|
            .chk (.eqN r0 r0) <|
            .chk (.eqV v31 v31) <|
            .chk (.eqV v31 v31) <|
            .chk (.eqV v31 v31) <|
            .chk (.eqN r1 r1) <|
            .chk (.eqV v31 v31) <|
            .chk (.eqV v31 v31) <|
            .chk (.eqV v31 v31) <|
            .pure [] (.bin .neq .int) [(g vs 27), (g vs 65)] fun v32 =>
            .chk (.eqV v31 v31) <|
            .pure [] .pick [v31, (.bool true), v32] fun v33 =>
            .chk (.eqV v33 v33) <|
            .chk (.eqV v33 v33) <|
            .chk (.eqN r0 r0) <|
            .chk (.eqV v33 v33) <|
            .chk (.eqV v33 v33) <|
            .chk (.eqV v33 v33) <|
            .chk (.eqN r1 r1) <|
            .chk (.eqV v33 v33) <|
            .chk (.eqV v33 v33) <|
            .chk (.eqV v33 v33) <|
            .pure [] (.bin .neq .int) [(g vs 28), (g vs 66)] fun v34 =>
            .chk (.eqV v33 v33) <|
            .pure [] .pick [v33, (.bool true), v34] fun v35 =>
            .br v35 (
              .ret (.bool false) []) (
              .call false 28 [(.pointer (some ⟨r1, 15, none⟩))] [] [] (.agg 4) fun l36 _ =>
              .chk (.eqV (g l36 0) (.pointer (some ⟨r1, 20, none⟩))) <|
              .chk (.eqV (g l36 1) (.pointer (some ⟨r1, 21, none⟩))) <|
              .chk (.eqV (g l36 2) (.pointer (some ⟨r1, 22, none⟩))) <|
              .chk (.eqV (g l36 3) (.pointer (some ⟨r1, 23, none⟩))) <|
              .newbox fun r3 =>
              .chk (.eqN r3 r3) <|
              .call false 28 [(.pointer (some ⟨r0, 15, none⟩))] [] [] (.agg 4) fun l37 _ =>
              .chk (.eqV (g l37 0) (.pointer (some ⟨r0, 20, none⟩))) <|
              .chk (.eqV (g l37 1) (.pointer (some ⟨r0, 21, none⟩))) <|
              .chk (.eqV (g l37 2) (.pointer (some ⟨r0, 22, none⟩))) <|
              .chk (.eqV (g l37 3) (.pointer (some ⟨r0, 23, none⟩))) <|
              .chk (.eqN r0 r0) <|
              .chk (.eqN r3 r3) <|
              .chk (.eqN r1 r1) <|
              .call true 37 [(g vs 20), (g vs 58)] [] [] .one fun l38 _ =>
              .pure [] .not [(g l38 0)] fun v39 =>
              .br v39 (
                .ret (.bool false) []) (
                .chk (.eqN r0 r0) <|
                .chk (.eqN r3 r3) <|
                .chk (.eqN r1 r1) <|
                .call true 37 [(g vs 21), (g vs 59)] [] [] .one fun l40 _ =>
                .pure [] .not [(g l40 0)] fun v41 =>
                .br v41 (
                  .ret (.bool false) []) (
                  .chk (.eqN r0 r0) <|
                  .chk (.eqN r3 r3) <|
                  .chk (.eqN r1 r1) <|
                  .call true 37 [(g vs 22), (g vs 60)] [] [] .one fun l42 _ =>
                  .pure [] .not [(g l42 0)] fun v43 =>
                  .br v43 (
                    .ret (.bool false) []) (
                    .chk (.eqN r0 r0) <|
                    .chk (.eqN r3 r3) <|
                    .chk (.eqN r1 r1) <|
                    .call true 37 [(g vs 23), (g vs 61)] [] [] .one fun l44 _ =>
                    .pure [] .not [(g l44 0)] fun v45 =>
                    .br v45 (
                      .ret (.bool false) []) (
                      .chk (.eqN r0 r0) <|
                      .chk (.eqN r1 r1) <|
                      .pure [] (.bin .eql .int) [(g vs 33), (g vs 71)] fun v46 =>
                      .chk (.eqN r0 r0) <|
                      .chk (.eqV v46 v46) <|
                      .chk (.eqN r1 r1) <|
                      .chk (.eqV v46 v46) <|
                      .chk (.eqV v46 v46) <|
                      .chk (.eqV v46 v46) <|
                      .pure [] (.bin .eql .int) [(g vs 34), (g vs 72)] fun v47 =>
                      .chk (.eqV v46 v46) <|
                      .pure [] .pick [v46, v47, (.bool false)] fun v48 =>
                      .chk (.eqN r0 r0) <|
                      .chk (.eqV v48 v48) <|
                      .chk (.eqN r1 r1) <|
                      .chk (.eqV v48 v48) <|
                      .chk (.eqV v48 v48) <|
                      .chk (.eqV v48 v48) <|
                      .pure [] (.bin .eql .int) [(g vs 35), (g vs 73)] fun v49 =>
                      .chk (.eqV v48 v48) <|
                      .pure [] .pick [v48, v49, (.bool false)] fun v50 =>
                      .chk (.eqN r0 r0) <|
                      .chk (.eqV v50 v50) <|
                      .chk (.eqN r1 r1) <|
                      .chk (.eqV v50 v50) <|
                      .chk (.eqV v50 v50) <|
                      .chk (.eqV v50 v50) <|
                      .pure [] (.bin .eql .int) [(g vs 36), (g vs 74)] fun v51 =>
                      .chk (.eqV v50 v50) <|
                      .pure [] .pick [v50, v51, (.bool false)] fun v52 =>
                      .chk (.eqN r0 r0) <|
                      .chk (.eqV v52 v52) <|
                      .chk (.eqN r1 r1) <|
                      .chk (.eqV v52 v52) <|
                      .chk (.eqV v52 v52) <|
                      .chk (.eqV v52 v52) <|
                      .pure [] (.bin .eql .int) [(g vs 37), (g vs 75)] fun v53 =>
                      .chk (.eqV v52 v52) <|
                      .pure [] .pick [v52, v53, (.bool false)] fun v54 =>
                      .br v54 (
                        .chk (.eqN r0 r0) <|
                        .chk (.eqN r1 r1) <|
                        .call false 38 [(g vs 0), (g vs 38)] [] [] .one fun l55 _ =>
                        .br (g l55 0) (
                          .chk (.eqN r0 r0) <|
                          .chk (.eqN r1 r1) <|
                          .call false 39 [(g vs 29), (g vs 67), (.func (.func 40) #[] #[])] [] [] .one fun l56 _ =>
                          .br (g l56 0) (
                            .chk (.eqN r0 r0) <|
                            .chk (.eqN r1 r1) <|
                            .call false 39 [(g vs 30), (g vs 68), (.func (.func 40) #[] #[])] [] [] .one fun l57 _ =>
                            .br (g l57 0) (
                              .chk (.eqN r0 r0) <|
                              .chk (.eqN r1 r1) <|
                              .call false 37 [(g vs 31), (g vs 69)] [] [] .one fun l58 _ =>
                              .br (g l58 0) (
                                .chk (.eqN r0 r0) <|
                                .chk (.eqN r1 r1) <|
                                .call false 41 [(g vs 32), (g vs 70)] [] [] .one fun l59 _ =>
                                .ret (g l59 0) []) (
                                .ret (.bool false) [])) (
                              .ret (.bool false) [])) (
                            .ret (.bool false) [])) (
                          .ret (.bool false) [])) (
                        .ret (.bool false) [])))))))))))
theorem T_board_Equal_eq (vs : List Value) : sxFun PP Tryd.f16 (mkOpts okL [(28, [5, 6, 7, 8])] [(2, .unroll 3), (9, .unroll 5)] []) vs = T_board_Equal vs := by kernel_rfl
theorem run_board_Equal {args vs : List Value} (ha : entryArgs PP Tryd.f16 args = some vs) (ho : Ones vs) {H : Heap} {O : Own} {Q : Value → Heap → Own → Prop} (h : (T_board_Equal vs).den PP Q H O) : Triple PP F_board_Equal args H O Q :=
  triple_run mixed (mkOpts_ok okL_ok _ _ _) Tryd.func16 T_board_Equal_eq ha ho h

abbrev F_board_Encode : FuncId := 17
/- zeitnot/board.Encode -/
def T_board_Encode (vs : List Value) : Tree :=
  .newbox fun r0 =>
  .chk (.eqN r0 r0) <|
  .call false 24 [(.agg #[(g vs 0), (g vs 1), (g vs 2), (g vs 3), (g vs 4), (g vs 5), (g vs 6), (g vs 7), (g vs 8), (g vs 9), (g vs 10), (g vs 11), (g vs 12), (g vs 13), (g vs 14), (g vs 15), (g vs 16), (g vs 17), (g vs 18), (g vs 19), (g vs 20), (g vs 21), (g vs 22), (g vs 23), (g vs 24), (g vs 25), (g vs 26), (g vs 27), (g vs 28), (g vs 29), (g vs 30), (g vs 31), (g vs 32), (g vs 33), (g vs 34), (g vs 35), (g vs 36), (g vs 37)])] [] [] .one fun l0 _ =>
  .pure [] .not [(g l0 0)] fun v1 =>
  .br v1 (
    .ret (.tuple #[(.slice none 0 0), (.int .i64 2)]) []) (
    .chk (.eqN r0 r0) <|
    .call false 42 [(.agg #[(g vs 0), (g vs 1), (g vs 2), (g vs 3), (g vs 4), (g vs 5), (g vs 6), (g vs 7), (g vs 8), (g vs 9), (g vs 10), (g vs 11), (g vs 12), (g vs 13), (g vs 14), (g vs 15), (g vs 16), (g vs 17), (g vs 18), (g vs 19), (g vs 20), (g vs 21), (g vs 22), (g vs 23), (g vs 24), (g vs 25), (g vs 26), (g vs 27), (g vs 28), (g vs 29), (g vs 30), (g vs 31), (g vs 32), (g vs 33), (g vs 34), (g vs 35), (g vs 36), (g vs 37)])] [] [] .one fun l2 _ =>
    .ret (.tuple #[(g l2 0), (.int .i64 0)]) [])
theorem T_board_Encode_eq (vs : List Value) : sxFun PP Tryd.f17 (mkOpts okL [(28, [5, 6, 7, 8])] [] []) vs = T_board_Encode vs := by kernel_rfl
theorem run_board_Encode {args vs : List Value} (ha : entryArgs PP Tryd.f17 args = some vs) (ho : Ones vs) {H : Heap} {O : Own} {Q : Value → Heap → Own → Prop} (h : (T_board_Encode vs).den PP Q H O) : Triple PP F_board_Encode args H O Q :=
  triple_run mixed (mkOpts_ok okL_ok _ _ _) Tryd.func17 T_board_Encode_eq ha ho h

abbrev F_board_within : FuncId := 18
/- zeitnot/board.within -/
def T_board_within (vs : List Value) : Tree :=
  .pure [] (.bin .geq .int) [(g vs 0), (g vs 1)] fun v0 =>
  .chk (.eqV v0 v0) <|
  .chk (.eqV v0 v0) <|
  .pure [] (.bin .leq .int) [(g vs 0), (g vs 2)] fun v1 =>
  .chk (.eqV v0 v0) <|
  .pure [] .pick [v0, v1, (.bool false)] fun v2 =>
  .ret v2 []
theorem T_board_within_eq (vs : List Value) : sxFun PP Tryd.f18 (mkOpts okL [(28, [5, 6, 7, 8])] [] []) vs = T_board_within vs := by kernel_rfl
theorem run_board_within {args vs : List Value} (ha : entryArgs PP Tryd.f18 args = some vs) (ho : Ones vs) {H : Heap} {O : Own} {Q : Value → Heap → Own → Prop} (h : (T_board_within vs).den PP Q H O) : Triple PP F_board_within args H O Q :=
  triple_run mixed (mkOpts_ok okL_ok _ _ _) Tryd.func18 T_board_within_eq ha ho h

abbrev F_object_New : FuncId := 19
/- zeitnot/object.New -/
def T_object_New (vs : List Value) : Tree :=
  .newbox fun r0 =>
  .chk (.eqN r0 r0) <|
  .chk (.eqN r0 r0) <|
  .ret (.agg #[(g vs 0), (g vs 1), (g vs 2), (.int .i64 0), (.int .i64 0), (.int .i64 0), (.int .i64 0), (.int .i64 0), (.int .i64 0), (.bool false), (.bool false), (.bool false)]) []
theorem T_object_New_eq (vs : List Value) : sxFun PP Tryd.f19 (mkOpts okL [(28, [5, 6, 7, 8])] [] []) vs = T_object_New vs := by kernel_rfl
theorem run_object_New {args vs : List Value} (ha : entryArgs PP Tryd.f19 args = some vs) (ho : Ones vs) {H : Heap} {O : Own} {Q : Value → Heap → Own → Prop} (h : (T_object_New vs).den PP Q H O) : Triple PP F_object_New args H O Q :=
  triple_run mixed (mkOpts_ok okL_ok _ _ _) Tryd.func19 T_object_New_eq ha ho h

abbrev F_zeitnotref15_items : FuncId := 20
/- zeitnot/zeitnotref15.items -/
def T_zeitnotref15_items (vs : List Value) : Tree :=
  .pure [] .len [(g vs 0)] fun v0 =>
  .pure [] .len [(g vs 1)] fun v1 =>
  .pure [] (.bin .neq .int) [v0, v1] fun v2 =>
  .br v2 (
    .ret (.bool false) []) (
    .loop 7 4 [(.int .i64 0)] fun C7 l3 =>
      .pure [] .len [(g vs 0)] fun v4 =>
      .pure [] (.bin .lss .int) [(g l3 0), v4] fun v5 =>
      .br v5 (
        .pure [] (.idx 5) [(g vs 0), (g l3 0)] fun v6 =>
        .load [] v6 5 fun l7 =>
        .pure [] (.idx 5) [(g vs 1), (g l3 0)] fun v8 =>
        .load [] v8 5 fun l9 =>
        .call true 43 [(.agg #[(g l7 0), (g l7 1), (g l7 2), (g l7 3), (g l7 4)]), (.agg #[(g l9 0), (g l9 1), (g l9 2), (g l9 3), (g l9 4)])] [] [] .one fun l10 _ =>
        .pure [] .not [(g l10 0)] fun v11 =>
        .br v11 (
          .ret (.bool false) []) (
          .pure [] (.bin .add .int) [(g l3 0), (.int .i64 1)] fun v12 =>
          .cont 7 C7 [v12] [E [(g vs 0)], E [(g vs 1)]])) (
        .ret (.bool true) []))
theorem T_zeitnotref15_items_eq (vs : List Value) : sxFun PP Tryd.f20 (mkOpts okL [(28, [5, 6, 7, 8])] [(4, .inv [5] [0, 1] [])] []) vs = T_zeitnotref15_items vs := by kernel_rfl
theorem run_zeitnotref15_items {args vs : List Value} (ha : entryArgs PP Tryd.f20 args = some vs) (ho : Ones vs) {H : Heap} {O : Own} {Q : Value → Heap → Own → Prop} (h : (T_zeitnotref15_items vs).den PP Q H O) : Triple PP F_zeitnotref15_items args H O Q :=
  triple_run mixed (mkOpts_ok okL_ok _ _ _) Tryd.func20 T_zeitnotref15_items_eq ha ho h

abbrev F_zeitnotref15_Zones : FuncId := 21
/- zeitnot/zeitnotref15.Zones -/
def T_zeitnotref15_Zones (vs : List Value) : Tree :=
  .newbox fun r0 =>
  .newbox fun r1 =>
  .chk (.eqN r0 r0) <|
  .chk (.eqN r0 r0) <|
  .chk (.eqN r0 r0) <|
  .chk (.eqN r0 r0) <|
  .chk (.eqN r1 r1) <|
  .chk (.eqN r1 r1) <|
  .ret (.agg #[(g vs 5), (g vs 6), (g vs 7), (g vs 8)]) []
theorem T_zeitnotref15_Zones_eq (vs : List Value) : sxFun PP Tryd.f21 (mkOpts okL [(28, [5, 6, 7, 8])] [] []) vs = T_zeitnotref15_Zones vs := by kernel_rfl
theorem run_zeitnotref15_Zones {args vs : List Value} (ha : entryArgs PP Tryd.f21 args = some vs) (ho : Ones vs) {H : Heap} {O : Own} {Q : Value → Heap → Own → Prop} (h : (T_zeitnotref15_Zones vs).den PP Q H O) : Triple PP F_zeitnotref15_Zones args H O Q :=
  triple_run mixed (mkOpts_ok okL_ok _ _ _) Tryd.func21 T_zeitnotref15_Zones_eq ha ho h

abbrev F_board_Where : FuncId := 22
/- zeitnot/board.Where -/
def T_board_Where (vs : List Value) : Tree :=
  .newbox fun r0 =>
  .newbox fun r1 =>
  .newbox fun r2 =>
  .chk (.eqN r0 r0) <|
  .chk (.eqN r1 r1) <|
  .call false 23 [(.agg #[(g vs 0), (g vs 1), (g vs 2), (g vs 3), (g vs 4), (g vs 5), (g vs 6), (g vs 7), (g vs 8), (g vs 9), (g vs 10), (g vs 11), (g vs 12), (g vs 13), (g vs 14), (g vs 15), (g vs 16), (g vs 17), (g vs 18), (g vs 19), (g vs 20), (g vs 21), (g vs 22), (g vs 23), (g vs 24), (g vs 25), (g vs 26), (g vs 27), (g vs 28), (g vs 29), (g vs 30), (g vs 31), (g vs 32), (g vs 33), (g vs 34), (g vs 35), (g vs 36), (g vs 37)]), (g vs 38)] [] [] (.tup [none, none]) fun l0 _ =>
  .pure [] (.bin .neq .int) [(g l0 1), (.int .i64 0)] fun v1 =>
  .br v1 (
    .chk (.eqN r2 r2) <|
    .chk (.eqN r2 r2) <|
    .ret (.tuple #[(.agg #[(.int .i64 0), (.int .i64 0), (.int .i64 0)]), (g l0 1)]) []) (
    .call false 28 [(.pointer (some ⟨r0, 1, none⟩))] [] [] (.agg 4) fun l2 _ =>
    .chk (.eqV (g l2 0) (.pointer (some ⟨r0, 6, none⟩))) <|
    .chk (.eqV (g l2 1) (.pointer (some ⟨r0, 7, none⟩))) <|
    .chk (.eqV (g l2 2) (.pointer (some ⟨r0, 8, none⟩))) <|
    .chk (.eqV (g l2 3) (.pointer (some ⟨r0, 9, none⟩))) <|
    .chk (.eqN r0 r0) <|
    .chk (.eqN r1 r1) <|
    .call true 44 [(g vs 6), (g vs 38)] [] [] .one fun l3 _ =>
    .pure [] (.bin .geq .int) [(g l3 0), (.int .i64 0)] fun v4 =>
    .br v4 (
      .chk (.eqN r2 r2) <|
      .chk (.eqN r2 r2) <|
      .ret (.tuple #[(.agg #[(.int .i64 0), (.int .i64 0), (g l3 0)]), (.int .i64 0)]) []) (
      .chk (.eqN r0 r0) <|
      .chk (.eqN r1 r1) <|
      .call true 44 [(g vs 7), (g vs 38)] [] [] .one fun l5 _ =>
      .pure [] (.bin .geq .int) [(g l5 0), (.int .i64 0)] fun v6 =>
      .br v6 (
        .chk (.eqN r2 r2) <|
        .chk (.eqN r2 r2) <|
        .ret (.tuple #[(.agg #[(.int .i64 0), (.int .i64 1), (g l5 0)]), (.int .i64 0)]) []) (
        .chk (.eqN r0 r0) <|
        .chk (.eqN r1 r1) <|
        .call true 44 [(g vs 8), (g vs 38)] [] [] .one fun l7 _ =>
        .pure [] (.bin .geq .int) [(g l7 0), (.int .i64 0)] fun v8 =>
        .br v8 (
          .chk (.eqN r2 r2) <|
          .chk (.eqN r2 r2) <|
          .ret (.tuple #[(.agg #[(.int .i64 0), (.int .i64 2), (g l7 0)]), (.int .i64 0)]) []) (
          .chk (.eqN r0 r0) <|
          .chk (.eqN r1 r1) <|
          .call true 44 [(g vs 9), (g vs 38)] [] [] .one fun l9 _ =>
          .pure [] (.bin .geq .int) [(g l9 0), (.int .i64 0)] fun v10 =>
          .br v10 (
            .chk (.eqN r2 r2) <|
            .chk (.eqN r2 r2) <|
            .ret (.tuple #[(.agg #[(.int .i64 0), (.int .i64 3), (g l9 0)]), (.int .i64 0)]) []) (
            .call false 28 [(.pointer (some ⟨r0, 15, none⟩))] [] [] (.agg 4) fun l11 _ =>
            .chk (.eqV (g l11 0) (.pointer (some ⟨r0, 20, none⟩))) <|
            .chk (.eqV (g l11 1) (.pointer (some ⟨r0, 21, none⟩))) <|
            .chk (.eqV (g l11 2) (.pointer (some ⟨r0, 22, none⟩))) <|
            .chk (.eqV (g l11 3) (.pointer (some ⟨r0, 23, none⟩))) <|
            .chk (.eqN r0 r0) <|
            .chk (.eqN r1 r1) <|
            .call true 44 [(g vs 20), (g vs 38)] [] [] .one fun l12 _ =>
            .pure [] (.bin .geq .int) [(g l12 0), (.int .i64 0)] fun v13 =>
            .br v13 (
              .chk (.eqN r2 r2) <|
              .chk (.eqN r2 r2) <|
              .ret (.tuple #[(.agg #[(.int .i64 1), (.int .i64 0), (g l12 0)]), (.int .i64 0)]) []) (
              .chk (.eqN r0 r0) <|
              .chk (.eqN r1 r1) <|
              .call true 44 [(g vs 21), (g vs 38)] [] [] .one fun l14 _ =>
              .pure [] (.bin .geq .int) [(g l14 0), (.int .i64 0)] fun v15 =>
              .br v15 (
                .chk (.eqN r2 r2) <|
                .chk (.eqN r2 r2) <|
                .ret (.tuple #[(.agg #[(.int .i64 1), (.int .i64 1), (g l14 0)]), (.int .i64 0)]) []) (
                .chk (.eqN r0 r0) <|
                .chk (.eqN r1 r1) <|
                .call true 44 [(g vs 22), (g vs 38)] [] [] .one fun l16 _ =>
                .pure [] (.bin .geq .int) [(g l16 0), (.int .i64 0)] fun v17 =>
                .br v17 (
                  .chk (.eqN r2 r2) <|
                  .chk (.eqN r2 r2) <|
                  .ret (.tuple #[(.agg #[(.int .i64 1), (.int .i64 2), (g l16 0)]), (.int .i64 0)]) []) (
                  .chk (.eqN r0 r0) <|
                  .chk (.eqN r1 r1) <|
                  .call true 44 [(g vs 23), (g vs 38)] [] [] .one fun l18 _ =>
                  .pure [] (.bin .geq .int) [(g l18 0), (.int .i64 0)] fun v19 =>
                  .br v19 (
                    .chk (.eqN r2 r2) <|
                    .chk (.eqN r2 r2) <|
                    .ret (.tuple #[(.agg #[(.int .i64 1), (.int .i64 3), (g l18 0)]), (.int .i64 0)]) []) (
                    .chk (.eqN r0 r0) <|
                    .call false 45 [(g vs 29), (.func (.func 46) #[] #[(.pointer (some ⟨r1, 0, none⟩))])] [] [⟨r1, 3, [(g vs 38)]⟩] .one fun l20 c20 =>
                    .chk (.eqN r0 r0) <|
                    .pure [] (.idx 5) [(g vs 29), (g l20 0)] fun v21 =>
                    .chk (.ptr [] v21) <|
                    .load [] v21 1 fun l22 =>
                    .chk (.eqN r2 r2) <|
                    .chk (.eqN r2 r2) <|
                    .ret (.tuple #[(.agg #[(g l22 0), (.int .i64 4), (g l20 0)]), (.int .i64 0)]) [])))))))))
theorem T_board_Where_eq (vs : List Value) : sxFun PP Tryd.f22 (mkOpts okL [(28, [5, 6, 7, 8])] [(5, .unroll 3), (8, .unroll 5)] []) vs = T_board_Where vs := by kernel_rfl
theorem run_board_Where {args vs : List Value} (ha : entryArgs PP Tryd.f22 args = some vs) (ho : Ones vs) {H : Heap} {O : Own} {Q : Value → Heap → Own → Prop} (h : (T_board_Where vs).den PP Q H O) : Triple PP F_board_Where args H O Q :=
  triple_run mixed (mkOpts_ok okL_ok _ _ _) Tryd.func22 T_board_Where_eq ha ho h

abbrev F_board_index : FuncId := 23
/- zeitnot/board.index -/
def T_board_index (vs : List Value) : Tree :=
  .newbox fun r0 =>
  .chk (.eqN r0 r0) <|
  .call false 24 [(.agg #[(g vs 0), (g vs 1), (g vs 2), (g vs 3), (g vs 4), (g vs 5), (g vs 6), (g vs 7), (g vs 8), (g vs 9), (g vs 10), (g vs 11), (g vs 12), (g vs 13), (g vs 14), (g vs 15), (g vs 16), (g vs 17), (g vs 18), (g vs 19), (g vs 20), (g vs 21), (g vs 22), (g vs 23), (g vs 24), (g vs 25), (g vs 26), (g vs 27), (g vs 28), (g vs 29), (g vs 30), (g vs 31), (g vs 32), (g vs 33), (g vs 34), (g vs 35), (g vs 36), (g vs 37)])] [] [] .one fun l0 _ =>
  .pure [] .not [(g l0 0)] fun v1 =>
  .br v1 (
    .ret (.tuple #[(.int .i64 0), (.int .i64 2)]) []) (
    .chk (.eqN r0 r0) <|
    .call false 47 [(g vs 0), (g vs 38), (.func (.func 48) #[] #[])] [] [] (.tup [none, none]) fun l2 _ =>
    .pure [] .not [(g l2 1)] fun v3 =>
    .br v3 (
      .ret (.tuple #[(.int .i64 0), (.int .i64 9)]) []) (
      .ret (.tuple #[(g l2 0), (.int .i64 0)]) []))
theorem T_board_index_eq (vs : List Value) : sxFun PP Tryd.f23 (mkOpts okL [(28, [5, 6, 7, 8])] [] []) vs = T_board_index vs := by kernel_rfl
theorem run_board_index {args vs : List Value} (ha : entryArgs PP Tryd.f23 args = some vs) (ho : Ones vs) {H : Heap} {O : Own} {Q : Value → Heap → Own → Prop} (h : (T_board_index vs).den PP Q H O) : Triple PP F_board_index args H O Q :=
  triple_run mixed (mkOpts_ok okL_ok _ _ _) Tryd.func23 T_board_index_eq ha ho h

abbrev F_board_Valid : FuncId := 24
/- zeitnot/board.Valid -/
def T_board_Valid (vs : List Value) : Tree :=
  .newbox fun r0 =>
  .chk (.eqN r0 r0) <|
  .call false 18 [(g vs 34), (.int .i64 0), (.int .i64 1)] [] [] .one fun l0 _ =>
  .pure [] .not [(g l0 0)] fun v1 =>
  .br v1 (
    .ret (.bool false) []) (
    .chk (.eqN r0 r0) <|
    .call false 18 [(g vs 33), (.int .i64 0), (.int .i64 1000)] [] [] .one fun l2 _ =>
    .pure [] .not [(g l2 0)] fun v3 =>
    .br v3 (
      .ret (.bool false) []) (
      .chk (.eqN r0 r0) <|
      .call false 18 [(g vs 35), (.int .i64 0), (.int .i64 10)] [] [] .one fun l4 _ =>
      .pure [] .not [(g l4 0)] fun v5 =>
      .br v5 (
        .ret (.bool false) []) (
        .chk (.eqN r0 r0) <|
        .call false 18 [(g vs 36), (.int .i64 (-1)), (.int .i64 1)] [] [] .one fun l6 _ =>
        .pure [] .not [(g l6 0)] fun v7 =>
        .br v7 (
          .ret (.bool false) []) (
          .chk (.eqN r0 r0) <|
          .call false 18 [(g vs 37), (.int .i64 0), (.int .i64 2)] [] [] .one fun l8 _ =>
          .pure [] .not [(g l8 0)] fun v9 =>
          .chk (.eqN r0 r0) <|
          .chk (.eqV v9 v9) <|
          .chk (.eqV v9 v9) <|
          .pure [] .len [(g vs 0)] fun v10 =>
          .chk (.eqV v9 v9) <|
          .pure [] (.bin .gtr .int) [v10, (.int .i64 500)] fun v11 =>
          .chk (.eqV v9 v9) <|
          .pure [] .pick [v9, (.bool true), v11] fun v12 =>
          .chk (.eqN r0 r0) <|
          .chk (.eqV v12 v12) <|
          .chk (.eqV v12 v12) <|
          .pure [] .len [(g vs 29)] fun v13 =>
          .chk (.eqV v12 v12) <|
          .pure [] (.bin .gtr .int) [v13, (.int .i64 200)] fun v14 =>
          .chk (.eqV v12 v12) <|
          .pure [] .pick [v12, (.bool true), v14] fun v15 =>
          .chk (.eqN r0 r0) <|
          .chk (.eqV v15 v15) <|
          .chk (.eqV v15 v15) <|
          .pure [] .len [(g vs 30)] fun v16 =>
          .chk (.eqV v15 v15) <|
          .pure [] (.bin .gtr .int) [v16, (.int .i64 200)] fun v17 =>
          .chk (.eqV v15 v15) <|
          .pure [] .pick [v15, (.bool true), v17] fun v18 =>
          .br v18 (
            .ret (.bool false) []) (
            .chk (.eqN r0 r0) <|
            .newbox fun r1 =>
            .chk (.eqN r1 r1) <|
            .chk (.eqN r1 r1) <|
            .call false 18 [(g vs 1), (.int .i64 0), (.int .i64 9999)] [] [] .one fun l19 _ =>
            .pure [] .not [(g l19 0)] fun v20 =>
            .br v20 (
              .ret (.bool false) []) (
              .chk (.eqN r1 r1) <|
              .call false 49 [(.agg #[(g vs 2), (g vs 3), (g vs 4), (g vs 5)])] [] [] .one fun l21 _ =>
              .pure [] .not [(g l21 0)] fun v22 =>
              .br v22 (
                .ret (.bool false) []) (
                .chk (.eqN r1 r1) <|
                .call false 18 [(g vs 13), (.int .i64 0), (.int .i64 7)] [] [] .one fun l23 _ =>
                .pure [] .not [(g l23 0)] fun v24 =>
                .br v24 (
                  .ret (.bool false) []) (
                  .chk (.eqN r1 r1) <|
                  .call false 18 [(g vs 14), (.int .i64 0), (.int .i64 255)] [] [] .one fun l25 _ =>
                  .pure [] .not [(g l25 0)] fun v26 =>
                  .br v26 (
                    .ret (.bool false) []) (
                    .newbox fun r2 =>
                    .chk (.eqN r2 r2) <|
                    .chk (.eqN r2 r2) <|
                    .call false 18 [(g vs 15), (.int .i64 0), (.int .i64 9999)] [] [] .one fun l27 _ =>
                    .pure [] .not [(g l27 0)] fun v28 =>
                    .br v28 (
                      .ret (.bool false) []) (
                      .chk (.eqN r2 r2) <|
                      .call false 49 [(.agg #[(g vs 16), (g vs 17), (g vs 18), (g vs 19)])] [] [] .one fun l29 _ =>
                      .pure [] .not [(g l29 0)] fun v30 =>
                      .br v30 (
                        .ret (.bool false) []) (
                        .chk (.eqN r2 r2) <|
                        .call false 18 [(g vs 27), (.int .i64 0), (.int .i64 7)] [] [] .one fun l31 _ =>
                        .pure [] .not [(g l31 0)] fun v32 =>
                        .br v32 (
                          .ret (.bool false) []) (
                          .chk (.eqN r2 r2) <|
                          .call false 18 [(g vs 28), (.int .i64 0), (.int .i64 255)] [] [] .one fun l33 _ =>
                          .pure [] .not [(g l33 0)] fun v34 =>
                          .br v34 (
                            .ret (.bool false) []) (
                            .chk (.eqN r0 r0) <|
                            .call false 50 [(g vs 29), (.func (.func 51) #[] #[])] [] [] .one fun l35 _ =>
                            .br (g l35 0) (
                              .ret (.bool false) []) (
                              .chk (.eqN r0 r0) <|
                              .call false 50 [(g vs 30), (.func (.func 53) #[] #[])] [] [] .one fun l36 _ =>
                              .pure [] .not [(g l36 0)] fun v37 =>
                              .br v37 (
                                .chk (.eqN r0 r0) <|
                                .call false 54 [(.agg #[(g vs 0), (g vs 1), (g vs 2), (g vs 3), (g vs 4), (g vs 5), (g vs 6), (g vs 7), (g vs 8), (g vs 9), (g vs 10), (g vs 11), (g vs 12), (g vs 13), (g vs 14), (g vs 15), (g vs 16), (g vs 17), (g vs 18), (g vs 19), (g vs 20), (g vs 21), (g vs 22), (g vs 23), (g vs 24), (g vs 25), (g vs 26), (g vs 27), (g vs 28), (g vs 29), (g vs 30), (g vs 31), (g vs 32), (g vs 33), (g vs 34), (g vs 35), (g vs 36), (g vs 37)])] [] [] .one fun l38 _ =>
                                .br (g l38 0) (
                                  .chk (.eqN r0 r0) <|
                                  .call false 55 [(.agg #[(g vs 0), (g vs 1), (g vs 2), (g vs 3), (g vs 4), (g vs 5), (g vs 6), (g vs 7), (g vs 8), (g vs 9), (g vs 10), (g vs 11), (g vs 12), (g vs 13), (g vs 14), (g vs 15), (g vs 16), (g vs 17), (g vs 18), (g vs 19), (g vs 20), (g vs 21), (g vs 22), (g vs 23), (g vs 24), (g vs 25), (g vs 26), (g vs 27), (g vs 28), (g vs 29), (g vs 30), (g vs 31), (g vs 32), (g vs 33), (g vs 34), (g vs 35), (g vs 36), (g vs 37)])] [] [] .one fun l39 _ =>
                                  .ret (g l39 0) []) (
                                  .ret (.bool false) [])) (
                                .ret (.bool false) [])))))))))))))))
theorem T_board_Valid_eq (vs : List Value) : sxFun PP Tryd.f24 (mkOpts okL [(28, [5, 6, 7, 8])] [(4, .unroll 3)] []) vs = T_board_Valid vs := by kernel_rfl
theorem run_board_Valid {args vs : List Value} (ha : entryArgs PP Tryd.f24 args = some vs) (ho : Ones vs) {H : Heap} {O : Own} {Q : Value → Heap → Own → Prop} (h : (T_board_Valid vs).den PP Q H O) : Triple PP F_board_Valid args H O Q :=
  triple_run mixed (mkOpts_ok okL_ok _ _ _) Tryd.func24 T_board_Valid_eq ha ho h

abbrev F_board_Copy : FuncId := 25
/- zeitnot/board.Copy -/
def T_board_Copy (vs : List Value) : Tree :=
  .newbox fun r0 =>
  .newbox fun r1 =>
  .chk (.eqN r0 r0) <|
  .chk (.eqN r0 r0) <|
  .chk (.eqN r0 r0) <|
  .call true 56 [(g vs 0)] [] [] .one fun l0 _ =>
  .call true 57 [(g vs 31)] [] [] .one fun l1 _ =>
  .call true 58 [(g vs 32)] [] [] .one fun l2 _ =>
  .chk (.eqN r0 r0) <|
  .chk (.eqN r0 r0) <|
  .chk (.eqN r0 r0) <|
  .chk (.eqN r0 r0) <|
  .chk (.eqN r0 r0) <|
  .call true 59 [(g vs 29)] [] [] .one fun l3 _ =>
  .call true 59 [(g vs 30)] [] [] .one fun l4 _ =>
  .chk (.eqN r0 r0) <|
  .chk (.eqN r0 r0) <|
  .call false 28 [(.pointer (some ⟨r0, 1, none⟩))] [] [] (.agg 4) fun l5 _ =>
  .chk (.eqV (g l5 0) (.pointer (some ⟨r0, 6, none⟩))) <|
  .chk (.eqV (g l5 1) (.pointer (some ⟨r0, 7, none⟩))) <|
  .chk (.eqV (g l5 2) (.pointer (some ⟨r0, 8, none⟩))) <|
  .chk (.eqV (g l5 3) (.pointer (some ⟨r0, 9, none⟩))) <|
  .chk (.eqN r0 r0) <|
  .call false 57 [(g vs 6)] [] [] .one fun l6 _ =>
  .chk (.eqN r0 r0) <|
  .chk (.eqN r0 r0) <|
  .call false 57 [(g vs 7)] [] [] .one fun l7 _ =>
  .chk (.eqN r0 r0) <|
  .chk (.eqN r0 r0) <|
  .call false 57 [(g vs 8)] [] [] .one fun l8 _ =>
  .chk (.eqN r0 r0) <|
  .chk (.eqN r0 r0) <|
  .call false 57 [(g vs 9)] [] [] .one fun l9 _ =>
  .chk (.eqN r0 r0) <|
  .call false 28 [(.pointer (some ⟨r0, 15, none⟩))] [] [] (.agg 4) fun l10 _ =>
  .chk (.eqV (g l10 0) (.pointer (some ⟨r0, 20, none⟩))) <|
  .chk (.eqV (g l10 1) (.pointer (some ⟨r0, 21, none⟩))) <|
  .chk (.eqV (g l10 2) (.pointer (some ⟨r0, 22, none⟩))) <|
  .chk (.eqV (g l10 3) (.pointer (some ⟨r0, 23, none⟩))) <|
  .chk (.eqN r0 r0) <|
  .call false 57 [(g vs 20)] [] [] .one fun l11 _ =>
  .chk (.eqN r0 r0) <|
  .chk (.eqN r0 r0) <|
  .call false 57 [(g vs 21)] [] [] .one fun l12 _ =>
  .chk (.eqN r0 r0) <|
  .chk (.eqN r0 r0) <|
  .call false 57 [(g vs 22)] [] [] .one fun l13 _ =>
  .chk (.eqN r0 r0) <|
  .chk (.eqN r0 r0) <|
  .call false 57 [(g vs 23)] [] [] .one fun l14 _ =>
  .chk (.eqN r0 r0) <|
  .chk (.eqN r0 r0) <|
  .chk (.eqN r1 r1) <|
  .chk (.eqN r1 r1) <|
  .ret (.agg #[(g l0 0), (g vs 1), (g vs 2), (g vs 3), (g vs 4), (g vs 5), (g l6 0), (g l7 0), (g l8 0), (g l9 0), (g vs 10), (g vs 11), (g vs 12), (g vs 13), (g vs 14), (g vs 15), (g vs 16), (g vs 17), (g vs 18), (g vs 19), (g l11 0), (g l12 0), (g l13 0), (g l14 0), (g vs 24), (g vs 25), (g vs 26), (g vs 27), (g vs 28), (g l3 0), (g l4 0), (g l1 0), (g l2 0), (g vs 33), (g vs 34), (g vs 35), (g vs 36), (g vs 37)]) []
theorem T_board_Copy_eq (vs : List Value) : sxFun PP Tryd.f25 (mkOpts okL [(28, [5, 6, 7, 8])] [(4, .unroll 3), (7, .unroll 5)] []) vs = T_board_Copy vs := by kernel_rfl
theorem run_board_Copy {args vs : List Value} (ha : entryArgs PP Tryd.f25 args = some vs) (ho : Ones vs) {H : Heap} {O : Own} {Q : Value → Heap → Own → Prop} (h : (T_board_Copy vs).den PP Q H O) : Triple PP F_board_Copy args H O Q :=
  triple_run mixed (mkOpts_ok okL_ok _ _ _) Tryd.func25 T_board_Copy_eq ha ho h

abbrev F_object_Reset : FuncId := 26
/- zeitnot/object.Reset -/
def T_object_Reset (vs : List Value) : Tree :=
  .newbox fun r0 =>
  .newbox fun r1 =>
  .chk (.eqN r0 r0) <|
  .call false 60 [(.agg #[(g vs 0), (g vs 1), (g vs 2), (g vs 3), (g vs 4), (g vs 5), (g vs 6), (g vs 7), (g vs 8), (g vs 9), (g vs 10), (g vs 11)])] [] [] (.agg 12) fun l0 _ =>
  .newbox fun r2 =>
  .chk (.eqN r2 r2) <|
  .pure [] (.bin .eql .int) [(g vs 12), (.int .i64 2)] fun v1 =>
  .chk (.eqN r2 r2) <|
  .chk (.eqN r2 r2) <|
  .chk (.eqN r2 r2) <|
  .chk (.eqN r2 r2) <|
  .chk (.eqN r2 r2) <|
  .chk (.eqN r1 r1) <|
  .chk (.eqN r1 r1) <|
  .ret (.agg #[(g l0 0), (g l0 1), (g l0 2), (g l0 3), (g l0 4), (g l0 5), (.int .i64 0), (g l0 7), (g l0 8), (.bool false), v1, (.bool false)]) []
theorem T_object_Reset_eq (vs : List Value) : sxFun PP Tryd.f26 (mkOpts okL [(28, [5, 6, 7, 8])] [] []) vs = T_object_Reset vs := by kernel_rfl
theorem run_object_Reset {args vs : List Value} (ha : entryArgs PP Tryd.f26 args = some vs) (ho : Ones vs) {H : Heap} {O : Own} {Q : Value → Heap → Own → Prop} (h : (T_object_Reset vs).den PP Q H O) : Triple PP F_object_Reset args H O Q :=
  triple_run mixed (mkOpts_ok okL_ok _ _ _) Tryd.func26 T_object_Reset_eq ha ho h

abbrev F_board_out : FuncId := 27
/- zeitnot/board.out -/
def T_board_out (vs : List Value) : Tree :=
  .newbox fun r0 =>
  .newbox fun r1 =>
  .newbox fun r2 =>
  .chk (.eqN r0 r0) <|
  .call false 25 [(.agg #[(g vs 0), (g vs 1), (g vs 2), (g vs 3), (g vs 4), (g vs 5), (g vs 6), (g vs 7), (g vs 8), (g vs 9), (g vs 10), (g vs 11), (g vs 12), (g vs 13), (g vs 14), (g vs 15), (g vs 16), (g vs 17), (g vs 18), (g vs 19), (g vs 20), (g vs 21), (g vs 22), (g vs 23), (g vs 24), (g vs 25), (g vs 26), (g vs 27), (g vs 28), (g vs 29), (g vs 30), (g vs 31), (g vs 32), (g vs 33), (g vs 34), (g vs 35), (g vs 36), (g vs 37)])] [] [] (.agg 38) fun l0 _ =>
  .chk (.eqN r0 r0) <|
  .call false 28 [(.pointer (some ⟨r0, 1, none⟩))] [] [] (.agg 4) fun l1 _ =>
  .chk (.eqV (g l1 0) (.pointer (some ⟨r0, 6, none⟩))) <|
  .chk (.eqV (g l1 1) (.pointer (some ⟨r0, 7, none⟩))) <|
  .chk (.eqV (g l1 2) (.pointer (some ⟨r0, 8, none⟩))) <|
  .chk (.eqV (g l1 3) (.pointer (some ⟨r0, 9, none⟩))) <|
  .chk (.eqN r0 r0) <|
  .call false 62 [(g l0 6), (.func (.func 61) #[] #[(.pointer (some ⟨r1, 0, none⟩))])] [] [⟨r1, 3, [(g vs 38)]⟩] .one fun l2 c2 =>
  .chk (.eqN r0 r0) <|
  .chk (.eqN r0 r0) <|
  .call false 62 [(g l0 7), (.func (.func 61) #[] #[(.pointer (some ⟨r1, 0, none⟩))])] [] [⟨r1, 3, [(g (c2.getD 0 []) 0)]⟩] .one fun l3 c3 =>
  .chk (.eqN r0 r0) <|
  .chk (.eqN r0 r0) <|
  .call false 62 [(g l0 8), (.func (.func 61) #[] #[(.pointer (some ⟨r1, 0, none⟩))])] [] [⟨r1, 3, [(g (c3.getD 0 []) 0)]⟩] .one fun l4 c4 =>
  .chk (.eqN r0 r0) <|
  .chk (.eqN r0 r0) <|
  .call false 62 [(g l0 9), (.func (.func 61) #[] #[(.pointer (some ⟨r1, 0, none⟩))])] [] [⟨r1, 3, [(g (c4.getD 0 []) 0)]⟩] .one fun l5 c5 =>
  .chk (.eqN r0 r0) <|
  .call false 28 [(.pointer (some ⟨r0, 15, none⟩))] [] [] (.agg 4) fun l6 _ =>
  .chk (.eqV (g l6 0) (.pointer (some ⟨r0, 20, none⟩))) <|
  .chk (.eqV (g l6 1) (.pointer (some ⟨r0, 21, none⟩))) <|
  .chk (.eqV (g l6 2) (.pointer (some ⟨r0, 22, none⟩))) <|
  .chk (.eqV (g l6 3) (.pointer (some ⟨r0, 23, none⟩))) <|
  .chk (.eqN r0 r0) <|
  .call false 62 [(g l0 20), (.func (.func 61) #[] #[(.pointer (some ⟨r1, 0, none⟩))])] [] [⟨r1, 3, [(g (c5.getD 0 []) 0)]⟩] .one fun l7 c7 =>
  .chk (.eqN r0 r0) <|
  .chk (.eqN r0 r0) <|
  .call false 62 [(g l0 21), (.func (.func 61) #[] #[(.pointer (some ⟨r1, 0, none⟩))])] [] [⟨r1, 3, [(g (c7.getD 0 []) 0)]⟩] .one fun l8 c8 =>
  .chk (.eqN r0 r0) <|
  .chk (.eqN r0 r0) <|
  .call false 62 [(g l0 22), (.func (.func 61) #[] #[(.pointer (some ⟨r1, 0, none⟩))])] [] [⟨r1, 3, [(g (c8.getD 0 []) 0)]⟩] .one fun l9 c9 =>
  .chk (.eqN r0 r0) <|
  .chk (.eqN r0 r0) <|
  .call false 62 [(g l0 23), (.func (.func 61) #[] #[(.pointer (some ⟨r1, 0, none⟩))])] [] [⟨r1, 3, [(g (c9.getD 0 []) 0)]⟩] .one fun l10 c10 =>
  .chk (.eqN r0 r0) <|
  .chk (.eqN r0 r0) <|
  .call false 63 [(g l0 29), (.func (.func 64) #[] #[(.pointer (some ⟨r1, 0, none⟩))])] [] [⟨r1, 3, [(g (c10.getD 0 []) 0)]⟩] .one fun l11 c11 =>
  .chk (.eqN r0 r0) <|
  .chk (.eqN r0 r0) <|
  .call false 62 [(g l0 31), (.func (.func 61) #[] #[(.pointer (some ⟨r1, 0, none⟩))])] [] [⟨r1, 3, [(g (c11.getD 0 []) 0)]⟩] .one fun l12 c12 =>
  .chk (.eqN r0 r0) <|
  .chk (.eqN r0 r0) <|
  .call false 65 [(g l0 32), (.func (.func 66) #[] #[(.pointer (some ⟨r1, 0, none⟩))])] [] [⟨r1, 3, [(g (c12.getD 0 []) 0)]⟩] .one fun l13 c13 =>
  .chk (.eqN r0 r0) <|
  .chk (.eqN r0 r0) <|
  .chk (.eqN r2 r2) <|
  .chk (.eqN r2 r2) <|
  .ret (.agg #[(g l0 0), (g l0 1), (g l0 2), (g l0 3), (g l0 4), (g l0 5), (g l2 0), (g l3 0), (g l4 0), (g l5 0), (g l0 10), (g l0 11), (g l0 12), (g l0 13), (g l0 14), (g l0 15), (g l0 16), (g l0 17), (g l0 18), (g l0 19), (g l7 0), (g l8 0), (g l9 0), (g l10 0), (g l0 24), (g l0 25), (g l0 26), (g l0 27), (g l0 28), (g l11 0), (g l0 30), (g l12 0), (g l13 0), (g l0 33), (g l0 34), (g l0 35), (g l0 36), (g l0 37)]) []
theorem T_board_out_eq (vs : List Value) : sxFun PP Tryd.f27 (mkOpts okL [(28, [5, 6, 7, 8])] [(4, .unroll 3), (7, .unroll 5)] []) vs = T_board_out vs := by kernel_rfl
theorem run_board_out {args vs : List Value} (ha : entryArgs PP Tryd.f27 args = some vs) (ho : Ones vs) {H : Heap} {O : Own} {Q : Value → Heap → Own → Prop} (h : (T_board_out vs).den PP Q H O) : Triple PP F_board_out args H O Q :=
  triple_run mixed (mkOpts_ok okL_ok _ _ _) Tryd.func27 T_board_out_eq ha ho h

abbrev F_board_lists : FuncId := 28
/- zeitnot/board.lists -/
def T_board_lists (vs : List Value) : Tree :=
  .newbox fun r0 =>
  .chk (.ptr [] (g vs 0)) <|
  .chk (.ptr [] (g vs 0)) <|
  .chk (.ptr [] (g vs 0)) <|
  .chk (.ptr [] (g vs 0)) <|
  .chk (.ptr [] (g vs 0)) <|
  .chk (.ptr [] (g vs 0)) <|
  .chk (.ptr [] (g vs 0)) <|
  .chk (.ptr [] (g vs 0)) <|
  .chk (.eqN r0 r0) <|
  .chk (.eqN r0 r0) <|
  .ret (.agg #[(ptrAdd (g vs 0) 5), (ptrAdd (g vs 0) 6), (ptrAdd (g vs 0) 7), (ptrAdd (g vs 0) 8)]) []
theorem T_board_lists_eq (vs : List Value) : sxFun PP Tryd.f28 (mkOpts okL [(28, [5, 6, 7, 8])] [] []) vs = T_board_lists vs := by kernel_rfl
theorem run_board_lists {args vs : List Value} (ha : entryArgs PP Tryd.f28 args = some vs) (ho : Ones vs) {H : Heap} {O : Own} {Q : Value → Heap → Own → Prop} (h : (T_board_lists vs).den PP Q H O) : Triple PP F_board_lists args H O Q :=
  triple_run mixed (mkOpts_ok okL_ok _ _ _) Tryd.func28 T_board_lists_eq ha ho h

abbrev F_ident_New : FuncId := 29
/- zeitnot/ident.New -/
def T_ident_New (vs : List Value) : Tree :=
  .pure [] (.bin .lss .int) [(g vs 0), (.int .i64 1)] fun v0 =>
  .chk (.eqV v0 v0) <|
  .pure [] (.bin .gtr .int) [(g vs 0), (.int .i64 4096)] fun v1 =>
  .chk (.eqV v0 v0) <|
  .pure [] .pick [v0, (.bool true), v1] fun v2 =>
  .br v2 (
    .ret (.tuple #[(.pointer none), (.int .i64 2)]) []) (
    .pure [] (.bin .add .int) [(g vs 0), (.int .i64 64)] fun v3 =>
    .pure [] (.bin .sub .int) [v3, (.int .i64 1)] fun v4 =>
    .pure [] (.bin .quo .int) [v4, (.int .i64 64)] fun v5 =>
    .prim (.makeSlice 116) [v5, v5] [] [] .one fun l6 _ =>
    .newbox fun r0 =>
    .ret (.tuple #[(.pointer (some ⟨r0, 0, none⟩)), (.int .i64 0)]) [⟨r0, 118, [(g vs 0), (g l6 0)]⟩])
theorem T_ident_New_eq (vs : List Value) : sxFun PP Tryd.f29 (mkOpts okL [(28, [5, 6, 7, 8])] [] []) vs = T_ident_New vs := by kernel_rfl
theorem run_ident_New {args vs : List Value} (ha : entryArgs PP Tryd.f29 args = some vs) (ho : Ones vs) {H : Heap} {O : Own} {Q : Value → Heap → Own → Prop} (h : (T_ident_New vs).den PP Q H O) : Triple PP F_ident_New args H O Q :=
  triple_run mixed (mkOpts_ok okL_ok _ _ _) Tryd.func29 T_ident_New_eq ha ho h

abbrev F_ident_Ids_Claim : FuncId := 30
/- (*zeitnot/ident.Ids).Claim -/
def T_ident_Ids_Claim (vs : List Value) : Tree :=
  .call false 67 [(g vs 0), (g vs 1)] [] [] (.tup [none, none, none]) fun l0 _ =>
  .pure [] (.bin .neq .int) [(g l0 2), (.int .i64 0)] fun v1 =>
  .br v1 (
    .ret (g l0 2) []) (
    .chk (.ptr [] (g l0 0)) <|
    .load [] (g l0 0) 1 fun l2 =>
    .pure [] (.bin .and .int) [(g l2 0), (g l0 1)] fun v3 =>
    .pure [] (.bin .neq .int) [v3, (.int .u64 0)] fun v4 =>
    .br v4 (
      .ret (.int .i64 11) []) (
      .chk (.ptr [] (g l0 0)) <|
      .load [] (g l0 0) 1 fun l5 =>
      .pure [] (.bin .or .int) [(g l5 0), (g l0 1)] fun v6 =>
      .chk (.ptr [] (g l0 0)) <|
      .chk (.ptr [] (g l0 0)) <|
      .store (g l0 0) [v6] <|
      .ret (.int .i64 0) []))
theorem T_ident_Ids_Claim_eq (vs : List Value) : sxFun PP Tryd.f30 (mkOpts okL [(28, [5, 6, 7, 8])] [] []) vs = T_ident_Ids_Claim vs := by kernel_rfl
theorem run_ident_Ids_Claim {args vs : List Value} (ha : entryArgs PP Tryd.f30 args = some vs) (ho : Ones vs) {H : Heap} {O : Own} {Q : Value → Heap → Own → Prop} (h : (T_ident_Ids_Claim vs).den PP Q H O) : Triple PP F_ident_Ids_Claim args H O Q :=
  triple_run mixed (mkOpts_ok okL_ok _ _ _) Tryd.func30 T_ident_Ids_Claim_eq ha ho h

abbrev F_ident_Ids_Take : FuncId := 31
/- (*zeitnot/ident.Ids).Take -/
def T_ident_Ids_Take (vs : List Value) : Tree :=
  .call false 68 [(g vs 0)] [] [] .one fun l0 _ =>
  .br (g l0 0) (
    .ret (.tuple #[(.int .i64 0), (.int .i64 1)]) []) (
    .chk (.ptr [] (g vs 0)) <|
    .chk (.ptr [] (g vs 0)) <|
    .load [] (ptrAdd (g vs 0) 1) 1 fun l1 =>
    .pure [] .len [(g l1 0)] fun v2 =>
    .loop 10 4 [(.int .i64 0)] fun C10 l3 =>
      .pure [] (.bin .lss .int) [(g l3 0), v2] fun v4 =>
      .br v4 (
        .pure [] (.idx 1) [(g l1 0), (g l3 0)] fun v5 =>
        .load [] v5 1 fun l6 =>
        .pure [] (.bin .mul .int) [(.int .i64 64), (g l3 0)] fun v7 =>
        .pure [] .compl [(g l6 0)] fun v8 =>
        .call false 69 [v8] [] [] .one fun l9 _ =>
        .pure [] (.bin .add .int) [v7, (g l9 0)] fun v10 =>
        .pure [] (.bin .add .int) [v10, (.int .i64 1)] fun v11 =>
        .pure [] .compl [(g l6 0)] fun v12 =>
        .pure [] (.bin .neq .int) [v12, (.int .u64 0)] fun v13 =>
        .chk (.ptr [(v13, true)] (g vs 0)) <|
        .chk (.eqV v13 v13) <|
        .chk (.ptr [(v13, true)] (g vs 0)) <|
        .chk (.eqV v13 v13) <|
        .chk (.eqV v13 v13) <|
        .load [(v13, true)] (g vs 0) 1 fun l14 =>
        .chk (.eqV v13 v13) <|
        .chk (.eqV v13 v13) <|
        .pure [] (.bin .leq .int) [v11, (g l14 0)] fun v15 =>
        .chk (.eqV v13 v13) <|
        .pure [] .pick [v13, v15, (.bool false)] fun v16 =>
        .br v16 (
          .chk (.ptr [] (g vs 0)) <|
          .chk (.ptr [] (g vs 0)) <|
          .load [] (ptrAdd (g vs 0) 1) 1 fun l17 =>
          .pure [] (.idx 1) [(g l17 0), (g l3 0)] fun v18 =>
          .load [] v18 1 fun l19 =>
          .pure [] (.bin .add .int) [(g l6 0), (.int .u64 1)] fun v20 =>
          .pure [] (.bin .or .int) [(g l19 0), v20] fun v21 =>
          .pure [] (.idx 1) [(g l17 0), (g l3 0)] fun v22 =>
          .chk (.ptr [] v22) <|
          .store v22 [v21] <|
          .ret (.tuple #[v11, (.int .i64 0)]) []) (
          .pure [] (.bin .add .int) [(g l3 0), (.int .i64 1)] fun v23 =>
          .cont 10 C10 [v23] [E [(g vs 0)], E [(g l1 0)], E [v2]])) (
        .ret (.tuple #[(.int .i64 0), (.int .i64 7)]) []))
theorem T_ident_Ids_Take_eq (vs : List Value) : sxFun PP Tryd.f31 (mkOpts okL [(28, [5, 6, 7, 8])] [(4, .inv [14] [0, 12, 13] [])] []) vs = T_ident_Ids_Take vs := by kernel_rfl
theorem run_ident_Ids_Take {args vs : List Value} (ha : entryArgs PP Tryd.f31 args = some vs) (ho : Ones vs) {H : Heap} {O : Own} {Q : Value → Heap → Own → Prop} (h : (T_ident_Ids_Take vs).den PP Q H O) : Triple PP F_ident_Ids_Take args H O Q :=
  triple_run mixed (mkOpts_ok okL_ok _ _ _) Tryd.func31 T_ident_Ids_Take_eq ha ho h

abbrev F_object_Token : FuncId := 32
/- zeitnot/object.Token -/
def T_object_Token (vs : List Value) : Tree :=
  .newbox fun r0 =>
  .call false 70 [(.int .i64 0), (g vs 2)] [] [] .one fun l0 _ =>
  .call false 70 [(.int .i64 0), (g vs 3)] [] [] .one fun l1 _ =>
  .chk (.eqN r0 r0) <|
  .chk (.eqN r0 r0) <|
  .ret (.agg #[(g vs 0), (.int .i64 (-1)), (g vs 1), (g l0 0), (g l1 0), (.int .i64 0), (.int .i64 0), (.int .i64 0), (.int .i64 0), (.bool false), (.bool false), (.bool false)]) []
theorem T_object_Token_eq (vs : List Value) : sxFun PP Tryd.f32 (mkOpts okL [(28, [5, 6, 7, 8])] [] []) vs = T_object_Token vs := by kernel_rfl
theorem run_object_Token {args vs : List Value} (ha : entryArgs PP Tryd.f32 args = some vs) (ho : Ones vs) {H : Heap} {O : Own} {Q : Value → Heap → Own → Prop} (h : (T_object_Token vs).den PP Q H O) : Triple PP F_object_Token args H O Q :=
  triple_run mixed (mkOpts_ok okL_ok _ _ _) Tryd.func32 T_object_Token_eq ha ho h

abbrev F_slices_Insert_api_Object_api_Object : FuncId := 33
/- slices.Insert[[]zeitnot/api.Object,zeitnot/api.Object] -/
def T_slices_Insert_api_Object_api_Object (vs : List Value) : Tree :=
  .pure [] (.slc 12 true false false) [(g vs 0), (g vs 1)] fun v0 =>
  .pure [] .len [(g vs 2)] fun v1 =>
  .pure [] (.bin .eql .int) [v1, (.int .i64 0)] fun v2 =>
  .br v2 (
    .ret (g vs 0) []) (
    .pure [] .len [(g vs 0)] fun v3 =>
    .pure [] (.bin .eql .int) [(g vs 1), v3] fun v4 =>
    .br v4 (
      .prim (.bi .append #[24, 24] 24) [(g vs 0), (g vs 2)] [] [] .one fun l5 _ =>
      .ret (g l5 0) []) (
      .pure [] (.bin .add .int) [v3, v1] fun v6 =>
      .pure [] .cap [(g vs 0)] fun v7 =>
      .pure [] (.bin .gtr .int) [v6, v7] fun v8 =>
      .br v8 (
        .pure [] (.slc 12 false true false) [(g vs 0), (g vs 1)] fun v9 =>
        .pure [] (.bin .add .int) [v3, v1] fun v10 =>
        .pure [] (.bin .sub .int) [v10, (g vs 1)] fun v11 =>
        .prim (.bi .append #[24, 3] 24) [v9, v11] [] [] .one fun l12 _ =>
        .pure [] (.slc 12 true false false) [(g l12 0), (g vs 1)] fun v13 =>
        .prim (.bi .copy #[24, 24] 3) [v13, (g vs 2)] [] [] .one fun l14 _ =>
        .pure [] (.bin .add .int) [(g vs 1), v1] fun v15 =>
        .pure [] (.slc 12 true false false) [(g l12 0), v15] fun v16 =>
        .pure [] (.slc 12 true false false) [(g vs 0), (g vs 1)] fun v17 =>
        .prim (.bi .copy #[24, 24] 3) [v16, v17] [] [] .one fun l18 _ =>
        .ret (g l12 0) []) (
        .pure [] (.bin .add .int) [v3, v1] fun v19 =>
        .pure [] (.slc 12 false true false) [(g vs 0), v19] fun v20 =>
        .pure [] (.bin .add .int) [(g vs 1), v1] fun v21 =>
        .pure [] (.slc 12 true false false) [v20, v21] fun v22 =>
        .prim (.intr 71) [(g vs 2), v22] [] [] .one fun l23 _ =>
        .pure [] .not [(g l23 0)] fun v24 =>
        .br v24 (
          .pure [] (.bin .add .int) [(g vs 1), v1] fun v25 =>
          .pure [] (.slc 12 true false false) [v20, v25] fun v26 =>
          .pure [] (.slc 12 true false false) [v20, (g vs 1)] fun v27 =>
          .prim (.bi .copy #[24, 24] 3) [v26, v27] [] [] .one fun l28 _ =>
          .pure [] (.slc 12 true false false) [v20, (g vs 1)] fun v29 =>
          .prim (.bi .copy #[24, 24] 3) [v29, (g vs 2)] [] [] .one fun l30 _ =>
          .ret v20 []) (
          .pure [] (.slc 12 true false false) [v20, v3] fun v31 =>
          .prim (.bi .copy #[24, 24] 3) [v31, (g vs 2)] [] [] .one fun l32 _ =>
          .pure [] (.slc 12 true false false) [v20, (g vs 1)] fun v33 =>
          .call false 72 [v33, v1] [] [] (.tup []) fun l34 _ =>
          .ret v20 []))))
theorem T_slices_Insert_api_Object_api_Object_eq (vs : List Value) : sxFun PP Tryd.f33 (mkOpts okL [(28, [5, 6, 7, 8])] [] []) vs = T_slices_Insert_api_Object_api_Object vs := by kernel_rfl
theorem run_slices_Insert_api_Object_api_Object {args vs : List Value} (ha : entryArgs PP Tryd.f33 args = some vs) (ho : Ones vs) {H : Heap} {O : Own} {Q : Value → Heap → Own → Prop} (h : (T_slices_Insert_api_Object_api_Object vs).den PP Q H O) : Triple PP F_slices_Insert_api_Object_api_Object args H O Q :=
  triple_run mixed (mkOpts_ok okL_ok _ _ _) Tryd.func33 T_slices_Insert_api_Object_api_Object_eq ha ho h

abbrev F_object_Creature : FuncId := 34
/- zeitnot/object.Creature -/
def T_object_Creature (vs : List Value) : Tree :=
  .newbox fun r0 =>
  .chk (.eqN r0 r0) <|
  .pure [] (.bin .eql .int) [(g vs 2), (.int .i64 (-1))] fun v0 =>
  .br v0 (
    .ret (.bool true) []) (
    .chk (.eqN r0 r0) <|
    .call false 73 [(g vs 0), (.agg #[(g vs 1), (g vs 2), (g vs 3), (g vs 4), (g vs 5), (g vs 6), (g vs 7), (g vs 8), (g vs 9), (g vs 10), (g vs 11), (g vs 12)])] [] [] (.agg 14) fun l1 _ =>
    .pure [] (.bin .eql .int) [(g l1 1), (.int .i64 2)] fun v2 =>
    .ret v2 [])
theorem T_object_Creature_eq (vs : List Value) : sxFun PP Tryd.f34 (mkOpts okL [(28, [5, 6, 7, 8])] [] []) vs = T_object_Creature vs := by kernel_rfl
theorem run_object_Creature {args vs : List Value} (ha : entryArgs PP Tryd.f34 args = some vs) (ho : Ones vs) {H : Heap} {O : Own} {Q : Value → Heap → Own → Prop} (h : (T_object_Creature vs).den PP Q H O) : Triple PP F_object_Creature args H O Q :=
  triple_run mixed (mkOpts_ok okL_ok _ _ _) Tryd.func34 T_object_Creature_eq ha ho h

abbrev F_slices_Contains_int_int : FuncId := 35
/- slices.Contains[[]int,int] -/
def T_slices_Contains_int_int (vs : List Value) : Tree :=
  .call false 44 [(g vs 0), (g vs 1)] [] [] .one fun l0 _ =>
  .pure [] (.bin .geq .int) [(g l0 0), (.int .i64 0)] fun v1 =>
  .ret v1 []
theorem T_slices_Contains_int_int_eq (vs : List Value) : sxFun PP Tryd.f35 (mkOpts okL [(28, [5, 6, 7, 8])] [] []) vs = T_slices_Contains_int_int vs := by kernel_rfl
theorem run_slices_Contains_int_int {args vs : List Value} (ha : entryArgs PP Tryd.f35 args = some vs) (ho : Ones vs) {H : Heap} {O : Own} {Q : Value → Heap → Own → Prop} (h : (T_slices_Contains_int_int vs).den PP Q H O) : Triple PP F_slices_Contains_int_int args H O Q :=
  triple_run mixed (mkOpts_ok okL_ok _ _ _) Tryd.func35 T_slices_Contains_int_int_eq ha ho h

abbrev F_object_Valid : FuncId := 36
/- zeitnot/object.Valid -/
def T_object_Valid (vs : List Value) : Tree :=
  .newbox fun r0 =>
  .chk (.eqN r0 r0) <|
  .chk (.eqN r0 r0) <|
  .chk (.eqN r0 r0) <|
  .chk (.eqN r0 r0) <|
  .chk (.eqN r0 r0) <|
  .chk (.eqN r0 r0) <|
  .loop 16 2 [(.int .i64 0)] fun C16 l0 =>
    .pure [] (.bin .lss .int) [(g l0 0), (.int .i64 6)] fun v1 =>
    .br v1 (
      .pure [] .aidx [(g l0 0), (g vs 3), (g vs 4), (g vs 5), (g vs 6), (g vs 7), (g vs 8)] fun v2 =>
      .pure [] (.bin .lss .int) [v2, (.int .i64 0)] fun v3 =>
      .chk (.eqV v3 v3) <|
      .pure [] (.bin .gtr .int) [v2, (.int .i64 99)] fun v4 =>
      .chk (.eqV v3 v3) <|
      .pure [] .pick [v3, (.bool true), v4] fun v5 =>
      .br v5 (
        .ret (.bool false) []) (
        .pure [] (.bin .add .int) [(g l0 0), (.int .i64 1)] fun v6 =>
        .cont 16 C16 [v6] [E [(.pointer (some ⟨r0, 0, none⟩))], E [(g vs 3), (g vs 4), (g vs 5), (g vs 6), (g vs 7), (g vs 8)], E [(.pointer (some ⟨r0, 0, none⟩)), (g vs 0), (g vs 1), (g vs 2), (g vs 3), (g vs 4), (g vs 5), (g vs 6), (g vs 7), (g vs 8), (g vs 9), (g vs 10), (g vs 11)]])) (
      .chk (.eqN r0 r0) <|
      .pure [] (.bin .eql .int) [(g vs 1), (.int .i64 (-1))] fun v7 =>
      .chk (.eqN r0 r0) <|
      .chk (.eqV v7 v7) <|
      .chk (.eqV v7 v7) <|
      .pure [] (.bin .eql .int) [(g vs 3), (.int .i64 0)] fun v8 =>
      .chk (.eqV v7 v7) <|
      .chk (.eqN r0 r0) <|
      .chk (.eqV v8 v8) <|
      .chk (.eqV v7 v7) <|
      .chk (.eqV v8 v8) <|
      .chk (.eqV v7 v7) <|
      .pure [] (.bin .eql .int) [(g vs 4), (.int .i64 0)] fun v9 =>
      .chk (.eqV v7 v7) <|
      .chk (.eqV v8 v8) <|
      .chk (.eqV v7 v7) <|
      .pure [] .pick [v8, v9, (.bool false)] fun v10 =>
      .chk (.eqV v7 v7) <|
      .pure [] .pick [v7, (.bool true), v10] fun v11 =>
      .chk (.eqN r0 r0) <|
      .chk (.eqV v11 v11) <|
      .chk (.eqV v11 v11) <|
      .pure [] (.bin .geq .int) [(g vs 0), (.int .i64 1)] fun v12 =>
      .chk (.eqV v11 v11) <|
      .pure [] .pick [v11, v12, (.bool false)] fun v13 =>
      .chk (.eqN r0 r0) <|
      .chk (.eqV v13 v13) <|
      .chk (.eqV v13 v13) <|
      .pure [] (.bin .leq .int) [(g vs 0), (.int .i64 500)] fun v14 =>
      .chk (.eqV v13 v13) <|
      .pure [] .pick [v13, v14, (.bool false)] fun v15 =>
      .chk (.eqN r0 r0) <|
      .chk (.eqV v15 v15) <|
      .chk (.eqV v15 v15) <|
      .pure [] (.bin .geq .int) [(g vs 1), (.int .i64 (-1))] fun v16 =>
      .chk (.eqV v15 v15) <|
      .pure [] .pick [v15, v16, (.bool false)] fun v17 =>
      .chk (.eqN r0 r0) <|
      .chk (.eqV v17 v17) <|
      .chk (.eqV v17 v17) <|
      .pure [] (.bin .lss .int) [(g vs 1), (.int .i64 400)] fun v18 =>
      .chk (.eqV v17 v17) <|
      .pure [] .pick [v17, v18, (.bool false)] fun v19 =>
      .chk (.eqN r0 r0) <|
      .chk (.eqV v19 v19) <|
      .chk (.eqV v19 v19) <|
      .pure [] (.bin .eql .int) [(g vs 2), (.int .i64 0)] fun v20 =>
      .chk (.eqV v19 v19) <|
      .chk (.eqN r0 r0) <|
      .chk (.eqV v20 v20) <|
      .chk (.eqV v19 v19) <|
      .chk (.eqV v20 v20) <|
      .chk (.eqV v19 v19) <|
      .pure [] (.bin .eql .int) [(g vs 2), (.int .i64 1)] fun v21 =>
      .chk (.eqV v19 v19) <|
      .chk (.eqV v20 v20) <|
      .chk (.eqV v19 v19) <|
      .pure [] .pick [v20, (.bool true), v21] fun v22 =>
      .chk (.eqV v19 v19) <|
      .pure [] .pick [v19, v22, (.bool false)] fun v23 =>
      .ret v23 [])
theorem T_object_Valid_eq (vs : List Value) : sxFun PP Tryd.f36 (mkOpts okL [(28, [5, 6, 7, 8])] [(2, .inv [19] [1, 18] [(1, [])])] []) vs = T_object_Valid vs := by kernel_rfl
theorem run_object_Valid {args vs : List Value} (ha : entryArgs PP Tryd.f36 args = some vs) (ho : Ones vs) {H : Heap} {O : Own} {Q : Value → Heap → Own → Prop} (h : (T_object_Valid vs).den PP Q H O) : Triple PP F_object_Valid args H O Q :=
  triple_run mixed (mkOpts_ok okL_ok _ _ _) Tryd.func36 T_object_Valid_eq ha ho h

abbrev F_slices_Equal_int_int : FuncId := 37
/- slices.Equal[[]int,int] -/
def T_slices_Equal_int_int (vs : List Value) : Tree :=
  .pure [] .len [(g vs 0)] fun v0 =>
  .pure [] .len [(g vs 1)] fun v1 =>
  .pure [] (.bin .neq .int) [v0, v1] fun v2 =>
  .br v2 (
    .ret (.bool false) []) (
    .pure [] .len [(g vs 0)] fun v3 =>
    .loop 9 4 [(.int .i64 0)] fun C9 l4 =>
      .pure [] (.bin .lss .int) [(g l4 0), v3] fun v5 =>
      .br v5 (
        .pure [] (.idx 1) [(g vs 0), (g l4 0)] fun v6 =>
        .load [] v6 1 fun l7 =>
        .pure [] (.idx 1) [(g vs 1), (g l4 0)] fun v8 =>
        .load [] v8 1 fun l9 =>
        .pure [] (.bin .neq .int) [(g l7 0), (g l9 0)] fun v10 =>
        .br v10 (
          .ret (.bool false) []) (
          .pure [] (.bin .add .int) [(g l4 0), (.int .i64 1)] fun v11 =>
          .cont 9 C9 [v11] [E [(g vs 0)], E [(g vs 1)], E [v3]])) (
        .ret (.bool true) []))
theorem T_slices_Equal_int_int_eq (vs : List Value) : sxFun PP Tryd.f37 (mkOpts okL [(28, [5, 6, 7, 8])] [(4, .inv [13] [0, 1, 12] [])] []) vs = T_slices_Equal_int_int vs := by kernel_rfl
theorem run_slices_Equal_int_int {args vs : List Value} (ha : entryArgs PP Tryd.f37 args = some vs) (ho : Ones vs) {H : Heap} {O : Own} {Q : Value → Heap → Own → Prop} (h : (T_slices_Equal_int_int vs).den PP Q H O) : Triple PP F_slices_Equal_int_int args H O Q :=
  triple_run mixed (mkOpts_ok okL_ok _ _ _) Tryd.func37 T_slices_Equal_int_int_eq ha ho h

abbrev F_slices_Equal_api_Object_api_Object : FuncId := 38
/- slices.Equal[[]zeitnot/api.Object,zeitnot/api.Object] -/
def T_slices_Equal_api_Object_api_Object (vs : List Value) : Tree :=
  .pure [] .len [(g vs 0)] fun v0 =>
  .pure [] .len [(g vs 1)] fun v1 =>
  .pure [] (.bin .neq .int) [v0, v1] fun v2 =>
  .br v2 (
    .ret (.bool false) []) (
    .pure [] .len [(g vs 0)] fun v3 =>
    .loop 9 4 [(.int .i64 0)] fun C9 l4 =>
      .pure [] (.bin .lss .int) [(g l4 0), v3] fun v5 =>
      .br v5 (
        .pure [] (.idx 12) [(g vs 0), (g l4 0)] fun v6 =>
        .load [] v6 12 fun l7 =>
        .pure [] (.idx 12) [(g vs 1), (g l4 0)] fun v8 =>
        .load [] v8 12 fun l9 =>
        .raw [] (.eqv .neq 46 false) [(.agg #[(g l7 0), (g l7 1), (g l7 2), (g l7 3), (g l7 4), (g l7 5), (g l7 6), (g l7 7), (g l7 8), (g l7 9), (g l7 10), (g l7 11)]), (.agg #[(g l9 0), (g l9 1), (g l9 2), (g l9 3), (g l9 4), (g l9 5), (g l9 6), (g l9 7), (g l9 8), (g l9 9), (g l9 10), (g l9 11)])] fun v10 =>
        .br v10 (
          .ret (.bool false) []) (
          .pure [] (.bin .add .int) [(g l4 0), (.int .i64 1)] fun v11 =>
          .cont 9 C9 [v11] [E [(g vs 0)], E [(g vs 1)], E [v3]])) (
        .ret (.bool true) []))
theorem T_slices_Equal_api_Object_api_Object_eq (vs : List Value) : sxFun PP Tryd.f38 (mkOpts okL [(28, [5, 6, 7, 8])] [(4, .inv [13] [0, 1, 12] [])] []) vs = T_slices_Equal_api_Object_api_Object vs := by kernel_rfl
theorem run_slices_Equal_api_Object_api_Object {args vs : List Value} (ha : entryArgs PP Tryd.f38 args = some vs) (ho : Ones vs) {H : Heap} {O : Own} {Q : Value → Heap → Own → Prop} (h : (T_slices_Equal_api_Object_api_Object vs).den PP Q H O) : Triple PP F_slices_Equal_api_Object_api_Object args H O Q :=
  triple_run mixed (mkOpts_ok okL_ok _ _ _) Tryd.func38 T_slices_Equal_api_Object_api_Object_eq ha ho h

abbrev F_slices_EqualFunc_api_Item_api_Item_api_Item_api_Item : FuncId := 39
/- slices.EqualFunc[[]zeitnot/api.Item,[]zeitnot/api.Item,zeitnot/api.Item,zeitnot/api.Item] -/
def T_slices_EqualFunc_api_Item_api_Item_api_Item_api_Item (vs : List Value) : Tree :=
  .pure [] .len [(g vs 0)] fun v0 =>
  .pure [] .len [(g vs 1)] fun v1 =>
  .pure [] (.bin .neq .int) [v0, v1] fun v2 =>
  .br v2 (
    .ret (.bool false) []) (
    .pure [] .len [(g vs 0)] fun v3 =>
    .loop 9 4 [(.int .i64 0)] fun C9 l4 =>
      .pure [] (.bin .lss .int) [(g l4 0), v3] fun v5 =>
      .br v5 (
        .pure [] (.idx 5) [(g vs 0), (g l4 0)] fun v6 =>
        .load [] v6 5 fun l7 =>
        .newbox fun r0 =>
        .chk (.eqN r0 r0) <|
        .pure [] (.idx 5) [(g vs 1), (g l4 0)] fun v8 =>
        .load [] v8 5 fun l9 =>
        .newbox fun r1 =>
        .chk (.eqN r1 r1) <|
        .chk (.eqN r0 r0) <|
        .chk (.eqN r1 r1) <|
        .callv false (g vs 2) [(.agg #[(g l7 0), (g l7 1), (g l7 2), (g l7 3), (g l7 4)]), (.agg #[(g l9 0), (g l9 1), (g l9 2), (g l9 3), (g l9 4)])] [] [] .one fun l10 _ =>
        .pure [] .not [(g l10 0)] fun v11 =>
        .br v11 (
          .ret (.bool false) []) (
          .pure [] (.bin .add .int) [(g l4 0), (.int .i64 1)] fun v12 =>
          .cont 9 C9 [v12] [E [(g vs 1)], E [(g vs 2)], E [(g vs 0)], E [v3]])) (
        .ret (.bool true) []))
theorem T_slices_EqualFunc_api_Item_api_Item_api_Item_api_Item_eq (vs : List Value) : sxFun PP Tryd.f39 (mkOpts okL [(28, [5, 6, 7, 8])] [(4, .inv [17] [1, 2, 15, 16] [])] []) vs = T_slices_EqualFunc_api_Item_api_Item_api_Item_api_Item vs := by kernel_rfl
theorem run_slices_EqualFunc_api_Item_api_Item_api_Item_api_Item {args vs : List Value} (ha : entryArgs PP Tryd.f39 args = some vs) (ho : Ones vs) {H : Heap} {O : Own} {Q : Value → Heap → Own → Prop} (h : (T_slices_EqualFunc_api_Item_api_Item_api_Item_api_Item vs).den PP Q H O) : Triple PP F_slices_EqualFunc_api_Item_api_Item_api_Item_api_Item args H O Q :=
  triple_run mixed (mkOpts_ok okL_ok _ _ _) Tryd.func39 T_slices_EqualFunc_api_Item_api_Item_api_Item_api_Item_eq ha ho h

abbrev F_board_same : FuncId := 40
/- zeitnot/board.same -/
def T_board_same (vs : List Value) : Tree :=
  .newbox fun r0 =>
  .newbox fun r1 =>
  .chk (.eqN r0 r0) <|
  .chk (.eqN r1 r1) <|
  .pure [] (.bin .eql .int) [(g vs 0), (g vs 5)] fun v0 =>
  .chk (.eqN r0 r0) <|
  .chk (.eqV v0 v0) <|
  .chk (.eqN r1 r1) <|
  .chk (.eqV v0 v0) <|
  .chk (.eqV v0 v0) <|
  .chk (.eqV v0 v0) <|
  .pure [] (.bin .eql .int) [(g vs 1), (g vs 6)] fun v1 =>
  .chk (.eqV v0 v0) <|
  .pure [] .pick [v0, v1, (.bool false)] fun v2 =>
  .chk (.eqN r0 r0) <|
  .chk (.eqV v2 v2) <|
  .chk (.eqN r1 r1) <|
  .chk (.eqV v2 v2) <|
  .chk (.eqV v2 v2) <|
  .chk (.eqV v2 v2) <|
  .pure [] (.bin .eql .int) [(g vs 2), (g vs 7)] fun v3 =>
  .chk (.eqV v2 v2) <|
  .pure [] .pick [v2, v3, (.bool false)] fun v4 =>
  .chk (.eqN r0 r0) <|
  .chk (.eqV v4 v4) <|
  .chk (.eqN r1 r1) <|
  .chk (.eqV v4 v4) <|
  .chk (.eqV v4 v4) <|
  .chk (.eqV v4 v4) <|
  .pure [] (.bin .eql .int) [(g vs 3), (g vs 8)] fun v5 =>
  .chk (.eqV v4 v4) <|
  .pure [] .pick [v4, v5, (.bool false)] fun v6 =>
  .br v6 (
    .chk (.eqN r0 r0) <|
    .chk (.eqN r1 r1) <|
    .call false 74 [(g vs 4), (g vs 9)] [] [] .one fun l7 _ =>
    .ret (g l7 0) []) (
    .ret (.bool false) [])
theorem T_board_same_eq (vs : List Value) : sxFun PP Tryd.f40 (mkOpts okL [(28, [5, 6, 7, 8])] [] []) vs = T_board_same vs := by kernel_rfl
theorem run_board_same {args vs : List Value} (ha : entryArgs PP Tryd.f40 args = some vs) (ho : Ones vs) {H : Heap} {O : Own} {Q : Value → Heap → Own → Prop} (h : (T_board_same vs).den PP Q H O) : Triple PP F_board_same args H O Q :=
  triple_run mixed (mkOpts_ok okL_ok _ _ _) Tryd.func40 T_board_same_eq ha ho h

abbrev F_slices_Equal_api_Block_api_Block : FuncId := 41
/- slices.Equal[[]zeitnot/api.Block,zeitnot/api.Block] -/
def T_slices_Equal_api_Block_api_Block (vs : List Value) : Tree :=
  .pure [] .len [(g vs 0)] fun v0 =>
  .pure [] .len [(g vs 1)] fun v1 =>
  .pure [] (.bin .neq .int) [v0, v1] fun v2 =>
  .br v2 (
    .ret (.bool false) []) (
    .pure [] .len [(g vs 0)] fun v3 =>
    .loop 9 4 [(.int .i64 0)] fun C9 l4 =>
      .pure [] (.bin .lss .int) [(g l4 0), v3] fun v5 =>
      .br v5 (
        .pure [] (.idx 2) [(g vs 0), (g l4 0)] fun v6 =>
        .load [] v6 2 fun l7 =>
        .pure [] (.idx 2) [(g vs 1), (g l4 0)] fun v8 =>
        .load [] v8 2 fun l9 =>
        .raw [] (.eqv .neq 64 false) [(.agg #[(g l7 0), (g l7 1)]), (.agg #[(g l9 0), (g l9 1)])] fun v10 =>
        .br v10 (
          .ret (.bool false) []) (
          .pure [] (.bin .add .int) [(g l4 0), (.int .i64 1)] fun v11 =>
          .cont 9 C9 [v11] [E [(g vs 0)], E [(g vs 1)], E [v3]])) (
        .ret (.bool true) []))
theorem T_slices_Equal_api_Block_api_Block_eq (vs : List Value) : sxFun PP Tryd.f41 (mkOpts okL [(28, [5, 6, 7, 8])] [(4, .inv [13] [0, 1, 12] [])] []) vs = T_slices_Equal_api_Block_api_Block vs := by kernel_rfl
theorem run_slices_Equal_api_Block_api_Block {args vs : List Value} (ha : entryArgs PP Tryd.f41 args = some vs) (ho : Ones vs) {H : Heap} {O : Own} {Q : Value → Heap → Own → Prop} (h : (T_slices_Equal_api_Block_api_Block vs).den PP Q H O) : Triple PP F_slices_Equal_api_Block_api_Block args H O Q :=
  triple_run mixed (mkOpts_ok okL_ok _ _ _) Tryd.func41 T_slices_Equal_api_Block_api_Block_eq ha ho h

abbrev F_board_write : FuncId := 42
/- zeitnot/board.write -/
def T_board_write (vs : List Value) : Tree :=
  .newbox fun r0 =>
  .newbox fun r1 =>
  .newbox fun r2 =>
  .chk (.eqN r0 r0) <|
  .pure [] .len [(g vs 0)] fun v0 =>
  .newbox fun r3 =>
  .call false 75 [(.pointer (some ⟨r2, 0, none⟩)), (.slice (some ⟨r3, 0, none⟩) 1 1)] [⟨r3, 3, [v0]⟩, ⟨r1, 5, []⟩] [⟨r2, 141, [(.slice (some ⟨r1, 0, none⟩) 0 0)]⟩] (.tup []) fun l1 c1 =>
  .chk (.eqN r0 r0) <|
  .pure [] .len [(g vs 0)] fun v2 =>
  .loop 15 4 [(.int .i64 0), (g (c1.getD 0 []) 0)] fun C15 l3 =>
    .pure [] (.bin .lss .int) [(g l3 0), v2] fun v4 =>
    .br v4 (
      .pure [] (.idx 12) [(g vs 0), (g l3 0)] fun v5 =>
      .load [] v5 12 fun l6 =>
      .newbox fun r4 =>
      .chk (.eqN r4 r4) <|
      .chk (.eqN r4 r4) <|
      .call false 76 [(.agg #[(g l6 0), (g l6 1), (g l6 2), (g l6 3), (g l6 4), (g l6 5), (g l6 6), (g l6 7), (g l6 8), (g l6 9), (g l6 10), (g l6 11)])] [] [] (.tup [none, none]) fun l7 _ =>
      .chk (.eqN r2 r2) <|
      .prim (.bi .append #[141, 56] 141) [(g l3 1), (g l7 0)] [] [] .one fun l8 _ =>
      .chk (.eqN r2 r2) <|
      .pure [] (.bin .add .int) [(g l3 0), (.int .i64 1)] fun v9 =>
      .cont 15 C15 [v9, (g l8 0)] [E [(.pointer (some ⟨r0, 0, none⟩))], E [(.pointer (some ⟨r2, 0, none⟩))], E [(g vs 0)], E [v2], E [(.pointer (some ⟨r0, 0, none⟩)), (g vs 0), (g vs 1), (g vs 2), (g vs 3), (g vs 4), (g vs 5), (g vs 6), (g vs 7), (g vs 8), (g vs 9), (g vs 10), (g vs 11), (g vs 12), (g vs 13), (g vs 14), (g vs 15), (g vs 16), (g vs 17), (g vs 18), (g vs 19), (g vs 20), (g vs 21), (g vs 22), (g vs 23), (g vs 24), (g vs 25), (g vs 26), (g vs 27), (g vs 28), (g vs 29), (g vs 30), (g vs 31), (g vs 32), (g vs 33), (g vs 34), (g vs 35), (g vs 36), (g vs 37)], E [(.pointer (some ⟨r2, 0, none⟩)), (.tuple #[])]]) (
      .chk (.eqN r0 r0) <|
      .newbox fun r5 =>
      .call false 75 [(.pointer (some ⟨r2, 0, none⟩)), (.slice (some ⟨r5, 0, none⟩) 1 1)] [⟨r5, 3, [(g vs 1)]⟩] [⟨r2, 141, [(g l3 1)]⟩] (.tup []) fun l10 c10 =>
      .call false 77 [(.pointer (some ⟨r2, 0, none⟩)), (.slice (some ⟨r0, 2, none⟩) 4 4)] [⟨r0, 34, [(g vs 0), (g vs 1), (g vs 2), (g vs 3), (g vs 4), (g vs 5), (g vs 6), (g vs 7), (g vs 8), (g vs 9), (g vs 10), (g vs 11), (g vs 12), (g vs 13), (g vs 14), (g vs 15), (g vs 16), (g vs 17), (g vs 18), (g vs 19), (g vs 20), (g vs 21), (g vs 22), (g vs 23), (g vs 24), (g vs 25), (g vs 26), (g vs 27), (g vs 28), (g vs 29), (g vs 30), (g vs 31), (g vs 32), (g vs 33), (g vs 34), (g vs 35), (g vs 36), (g vs 37)]⟩] [⟨r2, 141, [(g (c10.getD 0 []) 0)]⟩] (.tup []) fun l11 c11 =>
      .load [] (.pointer (some ⟨r0, 10, none⟩)) 1 fun l12 =>
      .load [] (.pointer (some ⟨r0, 11, none⟩)) 1 fun l13 =>
      .load [] (.pointer (some ⟨r0, 12, none⟩)) 1 fun l14 =>
      .load [] (.pointer (some ⟨r0, 13, none⟩)) 1 fun l15 =>
      .load [] (.pointer (some ⟨r0, 14, none⟩)) 1 fun l16 =>
      .call true 78 [(g l12 0), (.int .i64 1)] [] [] .one fun l17 _ =>
      .call true 78 [(g l13 0), (.int .i64 2)] [] [] .one fun l18 _ =>
      .pure [] (.bin .add .int) [(g l17 0), (g l18 0)] fun v19 =>
      .call true 78 [(g l14 0), (.int .i64 4)] [] [] .one fun l20 _ =>
      .pure [] (.bin .add .int) [v19, (g l20 0)] fun v21 =>
      .newbox fun r6 =>
      .call true 77 [(.pointer (some ⟨r2, 0, none⟩)), (.slice (some ⟨r6, 0, none⟩) 3 3)] [⟨r6, 3, [v21, (g l15 0), (g l16 0)]⟩] [⟨r2, 141, [(g (c11.getD 0 []) 0)]⟩] (.tup []) fun l22 c22 =>
      .call false 28 [(.pointer (some ⟨r0, 1, none⟩))] [] [] (.agg 4) fun l23 _ =>
      .chk (.eqV (g l23 0) (.pointer (some ⟨r0, 6, none⟩))) <|
      .chk (.eqV (g l23 1) (.pointer (some ⟨r0, 7, none⟩))) <|
      .chk (.eqV (g l23 2) (.pointer (some ⟨r0, 8, none⟩))) <|
      .chk (.eqV (g l23 3) (.pointer (some ⟨r0, 9, none⟩))) <|
      .load [] (.pointer (some ⟨r0, 6, none⟩)) 1 fun l24 =>
      .call false 79 [(.pointer (some ⟨r2, 0, none⟩)), (g l24 0)] [] [⟨r2, 141, [(g (c22.getD 0 []) 0)]⟩] (.tup []) fun l25 c25 =>
      .load [] (.pointer (some ⟨r0, 7, none⟩)) 1 fun l26 =>
      .call false 79 [(.pointer (some ⟨r2, 0, none⟩)), (g l26 0)] [] [⟨r2, 141, [(g (c25.getD 0 []) 0)]⟩] (.tup []) fun l27 c27 =>
      .load [] (.pointer (some ⟨r0, 8, none⟩)) 1 fun l28 =>
      .call false 79 [(.pointer (some ⟨r2, 0, none⟩)), (g l28 0)] [] [⟨r2, 141, [(g (c27.getD 0 []) 0)]⟩] (.tup []) fun l29 c29 =>
      .load [] (.pointer (some ⟨r0, 9, none⟩)) 1 fun l30 =>
      .call false 79 [(.pointer (some ⟨r2, 0, none⟩)), (g l30 0)] [] [⟨r2, 141, [(g (c29.getD 0 []) 0)]⟩] (.tup []) fun l31 c31 =>
      .load [] (.pointer (some ⟨r0, 15, none⟩)) 1 fun l32 =>
      .newbox fun r7 =>
      .call false 75 [(.pointer (some ⟨r2, 0, none⟩)), (.slice (some ⟨r7, 0, none⟩) 1 1)] [⟨r7, 3, [(g l32 0)]⟩] [⟨r2, 141, [(g (c31.getD 0 []) 0)]⟩] (.tup []) fun l33 c33 =>
      .call false 77 [(.pointer (some ⟨r2, 0, none⟩)), (.slice (some ⟨r0, 16, none⟩) 4 4)] [] [⟨r2, 141, [(g (c33.getD 0 []) 0)]⟩] (.tup []) fun l34 c34 =>
      .load [] (.pointer (some ⟨r0, 24, none⟩)) 1 fun l35 =>
      .load [] (.pointer (some ⟨r0, 25, none⟩)) 1 fun l36 =>
      .load [] (.pointer (some ⟨r0, 26, none⟩)) 1 fun l37 =>
      .load [] (.pointer (some ⟨r0, 27, none⟩)) 1 fun l38 =>
      .load [] (.pointer (some ⟨r0, 28, none⟩)) 1 fun l39 =>
      .call true 78 [(g l35 0), (.int .i64 1)] [] [] .one fun l40 _ =>
      .call true 78 [(g l36 0), (.int .i64 2)] [] [] .one fun l41 _ =>
      .pure [] (.bin .add .int) [(g l40 0), (g l41 0)] fun v42 =>
      .call true 78 [(g l37 0), (.int .i64 4)] [] [] .one fun l43 _ =>
      .pure [] (.bin .add .int) [v42, (g l43 0)] fun v44 =>
      .newbox fun r8 =>
      .call true 77 [(.pointer (some ⟨r2, 0, none⟩)), (.slice (some ⟨r8, 0, none⟩) 3 3)] [⟨r8, 3, [v44, (g l38 0), (g l39 0)]⟩] [⟨r2, 141, [(g (c34.getD 0 []) 0)]⟩] (.tup []) fun l45 c45 =>
      .call false 28 [(.pointer (some ⟨r0, 15, none⟩))] [] [] (.agg 4) fun l46 _ =>
      .chk (.eqV (g l46 0) (.pointer (some ⟨r0, 20, none⟩))) <|
      .chk (.eqV (g l46 1) (.pointer (some ⟨r0, 21, none⟩))) <|
      .chk (.eqV (g l46 2) (.pointer (some ⟨r0, 22, none⟩))) <|
      .chk (.eqV (g l46 3) (.pointer (some ⟨r0, 23, none⟩))) <|
      .load [] (.pointer (some ⟨r0, 20, none⟩)) 1 fun l47 =>
      .call false 79 [(.pointer (some ⟨r2, 0, none⟩)), (g l47 0)] [] [⟨r2, 141, [(g (c45.getD 0 []) 0)]⟩] (.tup []) fun l48 c48 =>
      .load [] (.pointer (some ⟨r0, 21, none⟩)) 1 fun l49 =>
      .call false 79 [(.pointer (some ⟨r2, 0, none⟩)), (g l49 0)] [] [⟨r2, 141, [(g (c48.getD 0 []) 0)]⟩] (.tup []) fun l50 c50 =>
      .load [] (.pointer (some ⟨r0, 22, none⟩)) 1 fun l51 =>
      .call false 79 [(.pointer (some ⟨r2, 0, none⟩)), (g l51 0)] [] [⟨r2, 141, [(g (c50.getD 0 []) 0)]⟩] (.tup []) fun l52 c52 =>
      .load [] (.pointer (some ⟨r0, 23, none⟩)) 1 fun l53 =>
      .call false 79 [(.pointer (some ⟨r2, 0, none⟩)), (g l53 0)] [] [⟨r2, 141, [(g (c52.getD 0 []) 0)]⟩] (.tup []) fun l54 c54 =>
      .load [] (.pointer (some ⟨r0, 29, none⟩)) 1 fun l55 =>
      .call false 80 [(.pointer (some ⟨r2, 0, none⟩)), (g l55 0)] [] [⟨r2, 141, [(g (c54.getD 0 []) 0)]⟩] (.tup []) fun l56 c56 =>
      .load [] (.pointer (some ⟨r0, 30, none⟩)) 1 fun l57 =>
      .call false 80 [(.pointer (some ⟨r2, 0, none⟩)), (g l57 0)] [] [⟨r2, 141, [(g (c56.getD 0 []) 0)]⟩] (.tup []) fun l58 c58 =>
      .load [] (.pointer (some ⟨r0, 31, none⟩)) 1 fun l59 =>
      .call false 79 [(.pointer (some ⟨r2, 0, none⟩)), (g l59 0)] [] [⟨r2, 141, [(g (c58.getD 0 []) 0)]⟩] (.tup []) fun l60 c60 =>
      .load [] (.pointer (some ⟨r0, 32, none⟩)) 1 fun l61 =>
      .pure [] .len [(g l61 0)] fun v62 =>
      .newbox fun r9 =>
      .call false 75 [(.pointer (some ⟨r2, 0, none⟩)), (.slice (some ⟨r9, 0, none⟩) 1 1)] [⟨r9, 3, [v62]⟩] [⟨r2, 141, [(g (c60.getD 0 []) 0)]⟩] (.tup []) fun l63 c63 =>
      .load [] (.pointer (some ⟨r0, 32, none⟩)) 1 fun l64 =>
      .pure [] .len [(g l64 0)] fun v65 =>
      .loop 229 27 [(.int .i64 0), (g (c63.getD 0 []) 0)] fun C229 l66 =>
        .pure [] (.bin .lss .int) [(g l66 0), v65] fun v67 =>
        .br v67 (
          .pure [] (.idx 2) [(g l64 0), (g l66 0)] fun v68 =>
          .load [] v68 2 fun l69 =>
          .newbox fun r10 =>
          .chk (.eqN r10 r10) <|
          .chk (.eqN r10 r10) <|
          .chk (.eqN r10 r10) <|
          .newbox fun r11 =>
          .call false 75 [(.pointer (some ⟨r2, 0, none⟩)), (.slice (some ⟨r11, 0, none⟩) 2 2)] [⟨r11, 3, [(g l69 0), (g l69 1)]⟩] [⟨r2, 141, [(g l66 1)]⟩] (.tup []) fun l70 c70 =>
          .pure [] (.bin .add .int) [(g l66 0), (.int .i64 1)] fun v71 =>
          .cont 229 C229 [v71, (g (c70.getD 0 []) 0)] [E [(.pointer (some ⟨r0, 0, none⟩))], E [(.pointer (some ⟨r2, 0, none⟩))], E [(g l64 0)], E [v65], E [(.pointer (some ⟨r2, 0, none⟩)), (.tuple #[])]]) (
          .load [] (.pointer (some ⟨r0, 33, none⟩)) 1 fun l72 =>
          .newbox fun r12 =>
          .call false 75 [(.pointer (some ⟨r2, 0, none⟩)), (.slice (some ⟨r12, 0, none⟩) 1 1)] [⟨r12, 3, [(g l72 0)]⟩] [⟨r2, 141, [(g l66 1)]⟩] (.tup []) fun l73 c73 =>
          .load [] (.pointer (some ⟨r0, 34, none⟩)) 1 fun l74 =>
          .load [] (.pointer (some ⟨r0, 35, none⟩)) 1 fun l75 =>
          .load [] (.pointer (some ⟨r0, 36, none⟩)) 1 fun l76 =>
          .pure [] (.bin .add .int) [(g l76 0), (.int .i64 1)] fun v77 =>
          .load [] (.pointer (some ⟨r0, 37, none⟩)) 1 fun l78 =>
          .newbox fun r13 =>
          .call false 77 [(.pointer (some ⟨r2, 0, none⟩)), (.slice (some ⟨r13, 0, none⟩) 4 4)] [⟨r13, 3, [(g l74 0), (g l75 0), v77, (g l78 0)]⟩] [⟨r2, 141, [(g (c73.getD 0 []) 0)]⟩] (.tup []) fun l79 c79 =>
          .chk (.eqN r2 r2) <|
          .ret (g (c79.getD 0 []) 0) []))
theorem T_board_write_eq (vs : List Value) : sxFun PP Tryd.f42 (mkOpts okL [(28, [5, 6, 7, 8])] [(10, .unroll 3), (17, .unroll 5), (4, .inv [25] [1, 3, 23, 24] [(1, []), (3, [0])]), (27, .inv [122] [1, 3, 120, 121] [(3, [0])])] []) vs = T_board_write vs := by kernel_rfl
theorem run_board_write {args vs : List Value} (ha : entryArgs PP Tryd.f42 args = some vs) (ho : Ones vs) {H : Heap} {O : Own} {Q : Value → Heap → Own → Prop} (h : (T_board_write vs).den PP Q H O) : Triple PP F_board_write args H O Q :=
  triple_run mixed (mkOpts_ok okL_ok _ _ _) Tryd.func42 T_board_write_eq ha ho h

abbrev F_zeitnotref15_SameItem : FuncId := 43
/- zeitnot/zeitnotref15.SameItem -/
def T_zeitnotref15_SameItem (vs : List Value) : Tree :=
  .newbox fun r0 =>
  .newbox fun r1 =>
  .chk (.eqN r0 r0) <|
  .chk (.eqN r1 r1) <|
  .pure [] (.bin .neq .int) [(g vs 0), (g vs 5)] fun v0 =>
  .chk (.eqN r0 r0) <|
  .chk (.eqV v0 v0) <|
  .chk (.eqN r1 r1) <|
  .chk (.eqV v0 v0) <|
  .chk (.eqV v0 v0) <|
  .chk (.eqV v0 v0) <|
  .pure [] (.bin .neq .int) [(g vs 1), (g vs 6)] fun v1 =>
  .chk (.eqV v0 v0) <|
  .pure [] .pick [v0, (.bool true), v1] fun v2 =>
  .chk (.eqN r0 r0) <|
  .chk (.eqV v2 v2) <|
  .chk (.eqN r1 r1) <|
  .chk (.eqV v2 v2) <|
  .chk (.eqV v2 v2) <|
  .chk (.eqV v2 v2) <|
  .pure [] (.bin .neq .int) [(g vs 2), (g vs 7)] fun v3 =>
  .chk (.eqV v2 v2) <|
  .pure [] .pick [v2, (.bool true), v3] fun v4 =>
  .chk (.eqN r0 r0) <|
  .chk (.eqV v4 v4) <|
  .chk (.eqN r1 r1) <|
  .chk (.eqV v4 v4) <|
  .chk (.eqV v4 v4) <|
  .chk (.eqV v4 v4) <|
  .pure [] (.bin .neq .int) [(g vs 3), (g vs 8)] fun v5 =>
  .chk (.eqV v4 v4) <|
  .pure [] .pick [v4, (.bool true), v5] fun v6 =>
  .chk (.eqN r0 r0) <|
  .chk (.eqV v6 v6) <|
  .chk (.eqV v6 v6) <|
  .pure [] .len [(g vs 4)] fun v7 =>
  .chk (.eqN r1 r1) <|
  .chk (.eqV v6 v6) <|
  .chk (.eqV v6 v6) <|
  .pure [] .len [(g vs 9)] fun v8 =>
  .chk (.eqV v6 v6) <|
  .chk (.eqV v6 v6) <|
  .pure [] (.bin .neq .int) [v7, v8] fun v9 =>
  .chk (.eqV v6 v6) <|
  .pure [] .pick [v6, (.bool true), v9] fun v10 =>
  .br v10 (
    .ret (.bool false) []) (
    .loop 39 4 [(.int .i64 0)] fun C39 l11 =>
      .chk (.eqN r0 r0) <|
      .pure [] .len [(g vs 4)] fun v12 =>
      .pure [] (.bin .lss .int) [(g l11 0), v12] fun v13 =>
      .br v13 (
        .chk (.eqN r0 r0) <|
        .pure [] (.idx 2) [(g vs 4), (g l11 0)] fun v14 =>
        .load [] v14 2 fun l15 =>
        .chk (.eqN r1 r1) <|
        .pure [] (.idx 2) [(g vs 9), (g l11 0)] fun v16 =>
        .load [] v16 2 fun l17 =>
        .raw [] (.eqv .neq 139 false) [(.agg #[(g l15 0), (g l15 1)]), (.agg #[(g l17 0), (g l17 1)])] fun v18 =>
        .br v18 (
          .ret (.bool false) []) (
          .pure [] (.bin .add .int) [(g l11 0), (.int .i64 1)] fun v19 =>
          .cont 39 C39 [v19] [E [(.pointer (some ⟨r0, 0, none⟩))], E [(.pointer (some ⟨r1, 0, none⟩))], E [(.pointer (some ⟨r0, 0, none⟩)), (g vs 0), (g vs 1), (g vs 2), (g vs 3), (g vs 4)], E [(.pointer (some ⟨r1, 0, none⟩)), (g vs 5), (g vs 6), (g vs 7), (g vs 8), (g vs 9)]])) (
        .ret (.bool true) []))
theorem T_zeitnotref15_SameItem_eq (vs : List Value) : sxFun PP Tryd.f43 (mkOpts okL [(28, [5, 6, 7, 8])] [(4, .inv [5] [2, 3] [(2, []), (3, [])])] []) vs = T_zeitnotref15_SameItem vs := by kernel_rfl
theorem run_zeitnotref15_SameItem {args vs : List Value} (ha : entryArgs PP Tryd.f43 args = some vs) (ho : Ones vs) {H : Heap} {O : Own} {Q : Value → Heap → Own → Prop} (h : (T_zeitnotref15_SameItem vs).den PP Q H O) : Triple PP F_zeitnotref15_SameItem args H O Q :=
  triple_run mixed (mkOpts_ok okL_ok _ _ _) Tryd.func43 T_zeitnotref15_SameItem_eq ha ho h

abbrev F_slices_Index_int_int : FuncId := 44
/- slices.Index[[]int,int] -/
def T_slices_Index_int_int (vs : List Value) : Tree :=
  .pure [] .len [(g vs 0)] fun v0 =>
  .loop 4 2 [(.int .i64 0)] fun C4 l1 =>
    .pure [] (.bin .lss .int) [(g l1 0), v0] fun v2 =>
    .br v2 (
      .pure [] (.idx 1) [(g vs 0), (g l1 0)] fun v3 =>
      .load [] v3 1 fun l4 =>
      .pure [] (.bin .eql .int) [(g vs 1), (g l4 0)] fun v5 =>
      .br v5 (
        .ret (g l1 0) []) (
        .pure [] (.bin .add .int) [(g l1 0), (.int .i64 1)] fun v6 =>
        .cont 4 C4 [v6] [E [(g vs 0)], E [(g vs 1)], E [v0]])) (
      .ret (.int .i64 (-1)) [])
theorem T_slices_Index_int_int_eq (vs : List Value) : sxFun PP Tryd.f44 (mkOpts okL [(28, [5, 6, 7, 8])] [(2, .inv [8] [0, 1, 7] [])] []) vs = T_slices_Index_int_int vs := by kernel_rfl
theorem run_slices_Index_int_int {args vs : List Value} (ha : entryArgs PP Tryd.f44 args = some vs) (ho : Ones vs) {H : Heap} {O : Own} {Q : Value → Heap → Own → Prop} (h : (T_slices_Index_int_int vs).den PP Q H O) : Triple PP F_slices_Index_int_int args H O Q :=
  triple_run mixed (mkOpts_ok okL_ok _ _ _) Tryd.func44 T_slices_Index_int_int_eq ha ho h

abbrev F_slices_IndexFunc_api_Item_api_Item : FuncId := 45
/- slices.IndexFunc[[]zeitnot/api.Item,zeitnot/api.Item] -/
def T_slices_IndexFunc_api_Item_api_Item (vs : List Value) : Tree :=
  .pure [] .len [(g vs 0)] fun v0 =>
  .loop 4 2 [(.int .i64 0)] fun C4 l1 =>
    .pure [] (.bin .lss .int) [(g l1 0), v0] fun v2 =>
    .br v2 (
      .pure [] (.idx 5) [(g vs 0), (g l1 0)] fun v3 =>
      .load [] v3 5 fun l4 =>
      .callv false (g vs 1) [(.agg #[(g l4 0), (g l4 1), (g l4 2), (g l4 3), (g l4 4)])] [] [] .one fun l5 _ =>
      .br (g l5 0) (
        .ret (g l1 0) []) (
        .pure [] (.bin .add .int) [(g l1 0), (.int .i64 1)] fun v6 =>
        .cont 4 C4 [v6] [E [(g vs 0)], E [(g vs 1)], E [v0]])) (
      .ret (.int .i64 (-1)) [])
theorem T_slices_IndexFunc_api_Item_api_Item_eq (vs : List Value) : sxFun PP Tryd.f45 (mkOpts okL [(28, [5, 6, 7, 8])] [(2, .inv [8] [0, 1, 7] [])] []) vs = T_slices_IndexFunc_api_Item_api_Item vs := by kernel_rfl
theorem run_slices_IndexFunc_api_Item_api_Item {args vs : List Value} (ha : entryArgs PP Tryd.f45 args = some vs) (ho : Ones vs) {H : Heap} {O : Own} {Q : Value → Heap → Own → Prop} (h : (T_slices_IndexFunc_api_Item_api_Item vs).den PP Q H O) : Triple PP F_slices_IndexFunc_api_Item_api_Item args H O Q :=
  triple_run mixed (mkOpts_ok okL_ok _ _ _) Tryd.func45 T_slices_IndexFunc_api_Item_api_Item_eq ha ho h

abbrev F_board_Where_1 : FuncId := 46
/- zeitnot/board.Where$1 -/
def T_board_Where_1 (vs : List Value) : Tree :=
  .newbox fun r0 =>
  .chk (.eqN r0 r0) <|
  .pure [] (.bin .lss .int) [(g vs 3), (.int .i64 0)] fun v0 =>
  .chk (.eqN r0 r0) <|
  .chk (.eqV v0 v0) <|
  .load [(v0, true)] (g vs 5) 1 fun l1 =>
  .chk (.eqV v0 v0) <|
  .chk (.eqV v0 v0) <|
  .pure [] (.bin .eql .int) [(g vs 1), (g l1 0)] fun v2 =>
  .chk (.eqV v0 v0) <|
  .pure [] .pick [v0, v2, (.bool false)] fun v3 =>
  .ret v3 []
theorem T_board_Where_1_eq (vs : List Value) : sxFun PP Tryd.f46 (mkOpts okL [(28, [5, 6, 7, 8])] [] []) vs = T_board_Where_1 vs := by kernel_rfl
theorem run_board_Where_1 {args vs : List Value} (ha : entryArgs PP Tryd.f46 args = some vs) (ho : Ones vs) {H : Heap} {O : Own} {Q : Value → Heap → Own → Prop} (h : (T_board_Where_1 vs).den PP Q H O) : Triple PP F_board_Where_1 args H O Q :=
  triple_run mixed (mkOpts_ok okL_ok _ _ _) Tryd.func46 T_board_Where_1_eq ha ho h

abbrev F_slices_BinarySearchFunc_api_Object_api_Object_int : FuncId := 47
/- slices.BinarySearchFunc[[]zeitnot/api.Object,zeitnot/api.Object,int] -/
def T_slices_BinarySearchFunc_api_Object_api_Object_int (vs : List Value) : Tree :=
  .pure [] .len [(g vs 0)] fun v0 =>
  .loop 8 3 [(.int .i64 0), v0] fun C8 l1 =>
    .pure [] (.bin .lss .int) [(g l1 0), (g l1 1)] fun v2 =>
    .br v2 (
      .pure [] (.bin .add .int) [(g l1 0), (g l1 1)] fun v3 =>
      .pure [] (.conv .u64) [v3] fun v4 =>
      .pure [] (.bin .shr .int) [v4, (.int .u64 1)] fun v5 =>
      .pure [] (.conv .i64) [v5] fun v6 =>
      .pure [] (.idx 12) [(g vs 0), v6] fun v7 =>
      .load [] v7 12 fun l8 =>
      .callv false (g vs 2) [(.agg #[(g l8 0), (g l8 1), (g l8 2), (g l8 3), (g l8 4), (g l8 5), (g l8 6), (g l8 7), (g l8 8), (g l8 9), (g l8 10), (g l8 11)]), (g vs 1)] [] [] .one fun l9 _ =>
      .pure [] (.bin .lss .int) [(g l9 0), (.int .i64 0)] fun v10 =>
      .br v10 (
        .pure [] (.bin .add .int) [v6, (.int .i64 1)] fun v11 =>
        .cont 8 C8 [v11, (g l1 1)] [E [(g vs 0)], E [(g vs 1)], E [(g vs 2)], E [v0]]) (
        .cont 8 C8 [(g l1 0), v6] [E [(g vs 0)], E [(g vs 1)], E [(g vs 2)], E [v0]])) (
      .pure [] (.bin .lss .int) [(g l1 0), v0] fun v12 =>
      .br v12 (
        .pure [] (.idx 12) [(g vs 0), (g l1 0)] fun v13 =>
        .load [] v13 12 fun l14 =>
        .callv false (g vs 2) [(.agg #[(g l14 0), (g l14 1), (g l14 2), (g l14 3), (g l14 4), (g l14 5), (g l14 6), (g l14 7), (g l14 8), (g l14 9), (g l14 10), (g l14 11)]), (g vs 1)] [] [] .one fun l15 _ =>
        .pure [] (.bin .eql .int) [(g l15 0), (.int .i64 0)] fun v16 =>
        .ret (.tuple #[(g l1 0), v16]) []) (
        .ret (.tuple #[(g l1 0), (.bool false)]) []))
theorem T_slices_BinarySearchFunc_api_Object_api_Object_int_eq (vs : List Value) : sxFun PP Tryd.f47 (mkOpts okL [(28, [5, 6, 7, 8])] [(3, .inv [9, 10] [0, 1, 2, 8] [])] []) vs = T_slices_BinarySearchFunc_api_Object_api_Object_int vs := by kernel_rfl
theorem run_slices_BinarySearchFunc_api_Object_api_Object_int {args vs : List Value} (ha : entryArgs PP Tryd.f47 args = some vs) (ho : Ones vs) {H : Heap} {O : Own} {Q : Value → Heap → Own → Prop} (h : (T_slices_BinarySearchFunc_api_Object_api_Object_int vs).den PP Q H O) : Triple PP F_slices_BinarySearchFunc_api_Object_api_Object_int args H O Q :=
  triple_run mixed (mkOpts_ok okL_ok _ _ _) Tryd.func47 T_slices_BinarySearchFunc_api_Object_api_Object_int_eq ha ho h

abbrev F_board_index_1 : FuncId := 48
/- zeitnot/board.index$1 -/
def T_board_index_1 (vs : List Value) : Tree :=
  .newbox fun r0 =>
  .chk (.eqN r0 r0) <|
  .pure [] (.bin .sub .int) [(g vs 0), (g vs 12)] fun v0 =>
  .ret v0 []
theorem T_board_index_1_eq (vs : List Value) : sxFun PP Tryd.f48 (mkOpts okL [(28, [5, 6, 7, 8])] [] []) vs = T_board_index_1 vs := by kernel_rfl
theorem run_board_index_1 {args vs : List Value} (ha : entryArgs PP Tryd.f48 args = some vs) (ho : Ones vs) {H : Heap} {O : Own} {Q : Value → Heap → Own → Prop} (h : (T_board_index_1 vs).den PP Q H O) : Triple PP F_board_index_1 args H O Q :=
  triple_run mixed (mkOpts_ok okL_ok _ _ _) Tryd.func48 T_board_index_1_eq ha ho h

abbrev F_mana_Valid : FuncId := 49
/- zeitnot/mana.Valid -/
def T_mana_Valid (vs : List Value) : Tree :=
  .newbox fun r0 =>
  .chk (.eqN r0 r0) <|
  .call false 81 [(.agg #[(g vs 0), (g vs 1), (g vs 2), (g vs 3)]), (.int .i64 99)] [] [] .one fun l0 _ =>
  .ret (g l0 0) []
theorem T_mana_Valid_eq (vs : List Value) : sxFun PP Tryd.f49 (mkOpts okL [(28, [5, 6, 7, 8])] [] []) vs = T_mana_Valid vs := by kernel_rfl
theorem run_mana_Valid {args vs : List Value} (ha : entryArgs PP Tryd.f49 args = some vs) (ho : Ones vs) {H : Heap} {O : Own} {Q : Value → Heap → Own → Prop} (h : (T_mana_Valid vs).den PP Q H O) : Triple PP F_mana_Valid args H O Q :=
  triple_run mixed (mkOpts_ok okL_ok _ _ _) Tryd.func49 T_mana_Valid_eq ha ho h

abbrev F_slices_ContainsFunc_api_Item_api_Item : FuncId := 50
/- slices.ContainsFunc[[]zeitnot/api.Item,zeitnot/api.Item] -/
def T_slices_ContainsFunc_api_Item_api_Item (vs : List Value) : Tree :=
  .call false 45 [(g vs 0), (g vs 1)] [] [] .one fun l0 _ =>
  .pure [] (.bin .geq .int) [(g l0 0), (.int .i64 0)] fun v1 =>
  .ret v1 []
theorem T_slices_ContainsFunc_api_Item_api_Item_eq (vs : List Value) : sxFun PP Tryd.f50 (mkOpts okL [(28, [5, 6, 7, 8])] [] []) vs = T_slices_ContainsFunc_api_Item_api_Item vs := by kernel_rfl
theorem run_slices_ContainsFunc_api_Item_api_Item {args vs : List Value} (ha : entryArgs PP Tryd.f50 args = some vs) (ho : Ones vs) {H : Heap} {O : Own} {Q : Value → Heap → Own → Prop} (h : (T_slices_ContainsFunc_api_Item_api_Item vs).den PP Q H O) : Triple PP F_slices_ContainsFunc_api_Item_api_Item args H O Q :=
  triple_run mixed (mkOpts_ok okL_ok _ _ _) Tryd.func50 T_slices_ContainsFunc_api_Item_api_Item_eq ha ho h

abbrev F_board_Valid_1 : FuncId := 51
/- zeitnot/board.Valid$1 -/
def T_board_Valid_1 (vs : List Value) : Tree :=
  .newbox fun r0 =>
  .chk (.eqN r0 r0) <|
  .call false 52 [(.agg #[(g vs 0), (g vs 1), (g vs 2), (g vs 3), (g vs 4)]), (.bool false)] [] [] .one fun l0 _ =>
  .pure [] .not [(g l0 0)] fun v1 =>
  .ret v1 []
theorem T_board_Valid_1_eq (vs : List Value) : sxFun PP Tryd.f51 (mkOpts okL [(28, [5, 6, 7, 8])] [] []) vs = T_board_Valid_1 vs := by kernel_rfl
theorem run_board_Valid_1 {args vs : List Value} (ha : entryArgs PP Tryd.f51 args = some vs) (ho : Ones vs) {H : Heap} {O : Own} {Q : Value → Heap → Own → Prop} (h : (T_board_Valid_1 vs).den PP Q H O) : Triple PP F_board_Valid_1 args H O Q :=
  triple_run mixed (mkOpts_ok okL_ok _ _ _) Tryd.func51 T_board_Valid_1_eq ha ho h

abbrev F_board_fine : FuncId := 52
/- zeitnot/board.fine -/
def T_board_fine (vs : List Value) : Tree :=
  .newbox fun r0 =>
  .chk (.eqN r0 r0) <|
  .call false 18 [(g vs 0), (.int .i64 0), (.int .i64 1)] [] [] .one fun l0 _ =>
  .br (g l0 0) (
    .chk (.eqN r0 r0) <|
    .call false 18 [(g vs 1), (.int .i64 1), (.int .i64 500)] [] [] .one fun l1 _ =>
    .br (g l1 0) (
      .chk (.eqN r0 r0) <|
      .call false 18 [(g vs 2), (.int .i64 0), (.int .i64 399)] [] [] .one fun l2 _ =>
      .br (g l2 0) (
        .chk (.eqN r0 r0) <|
        .call false 18 [(g vs 3), (.int .i64 (-1)), (.int .i64 1)] [] [] .one fun l3 _ =>
        .pure [] .not [(g l3 0)] fun v4 =>
        .chk (.eqN r0 r0) <|
        .chk (.eqV v4 v4) <|
        .chk (.eqV v4 v4) <|
        .pure [] .len [(g vs 4)] fun v5 =>
        .chk (.eqV v4 v4) <|
        .pure [] (.bin .gtr .int) [v5, (.int .i64 4)] fun v6 =>
        .chk (.eqV v4 v4) <|
        .pure [] .pick [v4, (.bool true), v6] fun v7 =>
        .chk (.eqN r0 r0) <|
        .chk (.eqV v7 v7) <|
        .chk (.eqV v7 v7) <|
        .pure [] (.bin .geq .int) [(g vs 3), (.int .i64 0)] fun v8 =>
        .chk (.eqV v7 v7) <|
        .chk (.eqN r0 r0) <|
        .chk (.eqV v8 v8) <|
        .chk (.eqV v7 v7) <|
        .chk (.eqV v8 v8) <|
        .chk (.eqV v7 v7) <|
        .pure [] .len [(g vs 4)] fun v9 =>
        .chk (.eqV v8 v8) <|
        .chk (.eqV v7 v7) <|
        .pure [] (.bin .gtr .int) [v9, (.int .i64 0)] fun v10 =>
        .chk (.eqV v7 v7) <|
        .chk (.eqV v8 v8) <|
        .chk (.eqV v7 v7) <|
        .pure [] .pick [v8, v10, (.bool false)] fun v11 =>
        .chk (.eqV v7 v7) <|
        .pure [] .pick [v7, (.bool true), v11] fun v12 =>
        .chk (.eqV v12 v12) <|
        .chk (.eqN r0 r0) <|
        .chk (.eqV (g vs 5) (g vs 5)) <|
        .chk (.eqV v12 v12) <|
        .chk (.eqV (g vs 5) (g vs 5)) <|
        .chk (.eqV v12 v12) <|
        .pure [] (.bin .lss .int) [(g vs 3), (.int .i64 0)] fun v13 =>
        .chk (.eqV v12 v12) <|
        .chk (.eqV (g vs 5) (g vs 5)) <|
        .chk (.eqV v12 v12) <|
        .pure [] .pick [(g vs 5), v13, (.bool false)] fun v14 =>
        .chk (.eqV v12 v12) <|
        .pure [] .pick [v12, (.bool true), v14] fun v15 =>
        .br v15 (
          .ret (.bool false) []) (
          .chk (.eqN r0 r0) <|
          .call false 82 [(g vs 4), (.func (.func 83) #[] #[])] [] [] .one fun l16 _ =>
          .pure [] .not [(g l16 0)] fun v17 =>
          .ret v17 [])) (
        .ret (.bool false) [])) (
      .ret (.bool false) [])) (
    .ret (.bool false) [])
theorem T_board_fine_eq (vs : List Value) : sxFun PP Tryd.f52 (mkOpts okL [(28, [5, 6, 7, 8])] [] []) vs = T_board_fine vs := by kernel_rfl
theorem run_board_fine {args vs : List Value} (ha : entryArgs PP Tryd.f52 args = some vs) (ho : Ones vs) {H : Heap} {O : Own} {Q : Value → Heap → Own → Prop} (h : (T_board_fine vs).den PP Q H O) : Triple PP F_board_fine args H O Q :=
  triple_run mixed (mkOpts_ok okL_ok _ _ _) Tryd.func52 T_board_fine_eq ha ho h

abbrev F_board_Valid_2 : FuncId := 53
/- zeitnot/board.Valid$2 -/
def T_board_Valid_2 (vs : List Value) : Tree :=
  .newbox fun r0 =>
  .chk (.eqN r0 r0) <|
  .call false 52 [(.agg #[(g vs 0), (g vs 1), (g vs 2), (g vs 3), (g vs 4)]), (.bool true)] [] [] .one fun l0 _ =>
  .pure [] .not [(g l0 0)] fun v1 =>
  .ret v1 []
theorem T_board_Valid_2_eq (vs : List Value) : sxFun PP Tryd.f53 (mkOpts okL [(28, [5, 6, 7, 8])] [] []) vs = T_board_Valid_2 vs := by kernel_rfl
theorem run_board_Valid_2 {args vs : List Value} (ha : entryArgs PP Tryd.f53 args = some vs) (ho : Ones vs) {H : Heap} {O : Own} {Q : Value → Heap → Own → Prop} (h : (T_board_Valid_2 vs).den PP Q H O) : Triple PP F_board_Valid_2 args H O Q :=
  triple_run mixed (mkOpts_ok okL_ok _ _ _) Tryd.func53 T_board_Valid_2_eq ha ho h

abbrev F_board_placed : FuncId := 54
/- zeitnot/board.placed -/
def T_board_placed (vs : List Value) : Tree :=
  .newbox fun r0 =>
  .prim (.makeMap 151 false) [] [] [] .one fun l0 _ =>
  .newbox fun r1 =>
  .chk (.eqN r1 r1) <|
  .call false 28 [(.pointer (some ⟨r0, 1, none⟩))] [] [] (.agg 4) fun l1 _ =>
  .chk (.eqV (g l1 0) (.pointer (some ⟨r0, 6, none⟩))) <|
  .chk (.eqV (g l1 1) (.pointer (some ⟨r0, 7, none⟩))) <|
  .chk (.eqV (g l1 2) (.pointer (some ⟨r0, 8, none⟩))) <|
  .chk (.eqV (g l1 3) (.pointer (some ⟨r0, 9, none⟩))) <|
  .chk (.eqN r0 r0) <|
  .pure [] .len [(g vs 6)] fun v2 =>
  .loop 24 10 [(.int .i64 0), (g l0 0)] fun C24 l3 =>
    .pure [] (.bin .lss .int) [(g l3 0), v2] fun v4 =>
    .br v4 (
      .pure [] (.idx 1) [(g vs 6), (g l3 0)] fun v5 =>
      .load [] v5 1 fun l6 =>
      .call false 85 [(g l6 0), (.int .i64 0), (.pointer (some ⟨r1, 0, none⟩))] [] [⟨r1, 151, [(g l3 1)]⟩] .one fun l7 c7 =>
      .pure [] .not [(g l7 0)] fun v8 =>
      .br v8 (
        .ret (.bool false) []) (
        .pure [] (.bin .add .int) [(g l3 0), (.int .i64 1)] fun v9 =>
        .cont 24 C24 [v9, (g (c7.getD 0 []) 0)] [E [(.pointer (some ⟨r0, 0, none⟩))], E [(.pointer (some ⟨r1, 0, none⟩))], E [(.func (.func 85) #[] #[(.pointer (some ⟨r1, 0, none⟩))])], E [(.int .i64 0)], E [(.int .i64 0)], E [(.pointer (some ⟨r0, 6, none⟩)), (.pointer (some ⟨r0, 7, none⟩)), (.pointer (some ⟨r0, 8, none⟩)), (.pointer (some ⟨r0, 9, none⟩))], E [(.int .i64 0)], E [(g vs 6)], E [v2], E [(.pointer (some ⟨r0, 0, none⟩)), (g vs 0), (g vs 1), (g vs 2), (g vs 3), (g vs 4), (g vs 5), (g vs 6), (g vs 7), (g vs 8), (g vs 9), (g vs 10), (g vs 11), (g vs 12), (g vs 13), (g vs 14), (g vs 15), (g vs 16), (g vs 17), (g vs 18), (g vs 19), (g vs 20), (g vs 21), (g vs 22), (g vs 23), (g vs 24), (g vs 25), (g vs 26), (g vs 27), (g vs 28), (g vs 29), (g vs 30), (g vs 31), (g vs 32), (g vs 33), (g vs 34), (g vs 35), (g vs 36), (g vs 37)], E [(.pointer (some ⟨r1, 0, none⟩)), (.tuple #[])]])) (
      .chk (.eqN r0 r0) <|
      .pure [] .len [(g vs 7)] fun v10 =>
      .loop 36 10 [(.int .i64 0), (g l3 1)] fun C36 l11 =>
        .pure [] (.bin .lss .int) [(g l11 0), v10] fun v12 =>
        .br v12 (
          .pure [] (.idx 1) [(g vs 7), (g l11 0)] fun v13 =>
          .load [] v13 1 fun l14 =>
          .call false 85 [(g l14 0), (.int .i64 0), (.pointer (some ⟨r1, 0, none⟩))] [] [⟨r1, 151, [(g l11 1)]⟩] .one fun l15 c15 =>
          .pure [] .not [(g l15 0)] fun v16 =>
          .br v16 (
            .ret (.bool false) []) (
            .pure [] (.bin .add .int) [(g l11 0), (.int .i64 1)] fun v17 =>
            .cont 36 C36 [v17, (g (c15.getD 0 []) 0)] [E [(.pointer (some ⟨r0, 0, none⟩))], E [(.pointer (some ⟨r1, 0, none⟩))], E [(.func (.func 85) #[] #[(.pointer (some ⟨r1, 0, none⟩))])], E [(.int .i64 0)], E [(.int .i64 0)], E [(.pointer (some ⟨r0, 6, none⟩)), (.pointer (some ⟨r0, 7, none⟩)), (.pointer (some ⟨r0, 8, none⟩)), (.pointer (some ⟨r0, 9, none⟩))], E [(.int .i64 1)], E [(g vs 7)], E [v10], E [(.pointer (some ⟨r0, 0, none⟩)), (g vs 0), (g vs 1), (g vs 2), (g vs 3), (g vs 4), (g vs 5), (g vs 6), (g vs 7), (g vs 8), (g vs 9), (g vs 10), (g vs 11), (g vs 12), (g vs 13), (g vs 14), (g vs 15), (g vs 16), (g vs 17), (g vs 18), (g vs 19), (g vs 20), (g vs 21), (g vs 22), (g vs 23), (g vs 24), (g vs 25), (g vs 26), (g vs 27), (g vs 28), (g vs 29), (g vs 30), (g vs 31), (g vs 32), (g vs 33), (g vs 34), (g vs 35), (g vs 36), (g vs 37)], E [(.pointer (some ⟨r1, 0, none⟩)), (.tuple #[])]])) (
          .chk (.eqN r0 r0) <|
          .pure [] .len [(g vs 8)] fun v18 =>
          .loop 48 10 [(.int .i64 0), (g l11 1)] fun C48 l19 =>
            .pure [] (.bin .lss .int) [(g l19 0), v18] fun v20 =>
            .br v20 (
              .pure [] (.idx 1) [(g vs 8), (g l19 0)] fun v21 =>
              .load [] v21 1 fun l22 =>
              .call false 85 [(g l22 0), (.int .i64 0), (.pointer (some ⟨r1, 0, none⟩))] [] [⟨r1, 151, [(g l19 1)]⟩] .one fun l23 c23 =>
              .pure [] .not [(g l23 0)] fun v24 =>
              .br v24 (
                .ret (.bool false) []) (
                .pure [] (.bin .add .int) [(g l19 0), (.int .i64 1)] fun v25 =>
                .cont 48 C48 [v25, (g (c23.getD 0 []) 0)] [E [(.pointer (some ⟨r0, 0, none⟩))], E [(.pointer (some ⟨r1, 0, none⟩))], E [(.func (.func 85) #[] #[(.pointer (some ⟨r1, 0, none⟩))])], E [(.int .i64 0)], E [(.int .i64 0)], E [(.pointer (some ⟨r0, 6, none⟩)), (.pointer (some ⟨r0, 7, none⟩)), (.pointer (some ⟨r0, 8, none⟩)), (.pointer (some ⟨r0, 9, none⟩))], E [(.int .i64 2)], E [(g vs 8)], E [v18], E [(.pointer (some ⟨r0, 0, none⟩)), (g vs 0), (g vs 1), (g vs 2), (g vs 3), (g vs 4), (g vs 5), (g vs 6), (g vs 7), (g vs 8), (g vs 9), (g vs 10), (g vs 11), (g vs 12), (g vs 13), (g vs 14), (g vs 15), (g vs 16), (g vs 17), (g vs 18), (g vs 19), (g vs 20), (g vs 21), (g vs 22), (g vs 23), (g vs 24), (g vs 25), (g vs 26), (g vs 27), (g vs 28), (g vs 29), (g vs 30), (g vs 31), (g vs 32), (g vs 33), (g vs 34), (g vs 35), (g vs 36), (g vs 37)], E [(.pointer (some ⟨r1, 0, none⟩)), (.tuple #[])]])) (
              .chk (.eqN r0 r0) <|
              .pure [] .len [(g vs 9)] fun v26 =>
              .loop 60 10 [(.int .i64 0), (g l19 1)] fun C60 l27 =>
                .pure [] (.bin .lss .int) [(g l27 0), v26] fun v28 =>
                .br v28 (
                  .pure [] (.idx 1) [(g vs 9), (g l27 0)] fun v29 =>
                  .load [] v29 1 fun l30 =>
                  .call false 85 [(g l30 0), (.int .i64 0), (.pointer (some ⟨r1, 0, none⟩))] [] [⟨r1, 151, [(g l27 1)]⟩] .one fun l31 c31 =>
                  .pure [] .not [(g l31 0)] fun v32 =>
                  .br v32 (
                    .ret (.bool false) []) (
                    .pure [] (.bin .add .int) [(g l27 0), (.int .i64 1)] fun v33 =>
                    .cont 60 C60 [v33, (g (c31.getD 0 []) 0)] [E [(.pointer (some ⟨r0, 0, none⟩))], E [(.pointer (some ⟨r1, 0, none⟩))], E [(.func (.func 85) #[] #[(.pointer (some ⟨r1, 0, none⟩))])], E [(.int .i64 0)], E [(.int .i64 0)], E [(.pointer (some ⟨r0, 6, none⟩)), (.pointer (some ⟨r0, 7, none⟩)), (.pointer (some ⟨r0, 8, none⟩)), (.pointer (some ⟨r0, 9, none⟩))], E [(.int .i64 3)], E [(g vs 9)], E [v26], E [(.pointer (some ⟨r0, 0, none⟩)), (g vs 0), (g vs 1), (g vs 2), (g vs 3), (g vs 4), (g vs 5), (g vs 6), (g vs 7), (g vs 8), (g vs 9), (g vs 10), (g vs 11), (g vs 12), (g vs 13), (g vs 14), (g vs 15), (g vs 16), (g vs 17), (g vs 18), (g vs 19), (g vs 20), (g vs 21), (g vs 22), (g vs 23), (g vs 24), (g vs 25), (g vs 26), (g vs 27), (g vs 28), (g vs 29), (g vs 30), (g vs 31), (g vs 32), (g vs 33), (g vs 34), (g vs 35), (g vs 36), (g vs 37)], E [(.pointer (some ⟨r1, 0, none⟩)), (.tuple #[])]])) (
                  .call false 28 [(.pointer (some ⟨r0, 15, none⟩))] [] [] (.agg 4) fun l34 _ =>
                  .chk (.eqV (g l34 0) (.pointer (some ⟨r0, 20, none⟩))) <|
                  .chk (.eqV (g l34 1) (.pointer (some ⟨r0, 21, none⟩))) <|
                  .chk (.eqV (g l34 2) (.pointer (some ⟨r0, 22, none⟩))) <|
                  .chk (.eqV (g l34 3) (.pointer (some ⟨r0, 23, none⟩))) <|
                  .chk (.eqN r0 r0) <|
                  .pure [] .len [(g vs 20)] fun v35 =>
                  .loop 83 10 [(.int .i64 0), (g l27 1)] fun C83 l36 =>
                    .pure [] (.bin .lss .int) [(g l36 0), v35] fun v37 =>
                    .br v37 (
                      .pure [] (.idx 1) [(g vs 20), (g l36 0)] fun v38 =>
                      .load [] v38 1 fun l39 =>
                      .call false 85 [(g l39 0), (.int .i64 1), (.pointer (some ⟨r1, 0, none⟩))] [] [⟨r1, 151, [(g l36 1)]⟩] .one fun l40 c40 =>
                      .pure [] .not [(g l40 0)] fun v41 =>
                      .br v41 (
                        .ret (.bool false) []) (
                        .pure [] (.bin .add .int) [(g l36 0), (.int .i64 1)] fun v42 =>
                        .cont 83 C83 [v42, (g (c40.getD 0 []) 0)] [E [(.pointer (some ⟨r0, 0, none⟩))], E [(.pointer (some ⟨r1, 0, none⟩))], E [(.func (.func 85) #[] #[(.pointer (some ⟨r1, 0, none⟩))])], E [(.int .i64 1)], E [(.int .i64 1)], E [(.pointer (some ⟨r0, 20, none⟩)), (.pointer (some ⟨r0, 21, none⟩)), (.pointer (some ⟨r0, 22, none⟩)), (.pointer (some ⟨r0, 23, none⟩))], E [(.int .i64 0)], E [(g vs 20)], E [v35], E [(.pointer (some ⟨r0, 0, none⟩)), (g vs 0), (g vs 1), (g vs 2), (g vs 3), (g vs 4), (g vs 5), (g vs 6), (g vs 7), (g vs 8), (g vs 9), (g vs 10), (g vs 11), (g vs 12), (g vs 13), (g vs 14), (g vs 15), (g vs 16), (g vs 17), (g vs 18), (g vs 19), (g vs 20), (g vs 21), (g vs 22), (g vs 23), (g vs 24), (g vs 25), (g vs 26), (g vs 27), (g vs 28), (g vs 29), (g vs 30), (g vs 31), (g vs 32), (g vs 33), (g vs 34), (g vs 35), (g vs 36), (g vs 37)], E [(.pointer (some ⟨r1, 0, none⟩)), (.tuple #[])]])) (
                      .chk (.eqN r0 r0) <|
                      .pure [] .len [(g vs 21)] fun v43 =>
                      .loop 95 10 [(.int .i64 0), (g l36 1)] fun C95 l44 =>
                        .pure [] (.bin .lss .int) [(g l44 0), v43] fun v45 =>
                        .br v45 (
                          .pure [] (.idx 1) [(g vs 21), (g l44 0)] fun v46 =>
                          .load [] v46 1 fun l47 =>
                          .call false 85 [(g l47 0), (.int .i64 1), (.pointer (some ⟨r1, 0, none⟩))] [] [⟨r1, 151, [(g l44 1)]⟩] .one fun l48 c48 =>
                          .pure [] .not [(g l48 0)] fun v49 =>
                          .br v49 (
                            .ret (.bool false) []) (
                            .pure [] (.bin .add .int) [(g l44 0), (.int .i64 1)] fun v50 =>
                            .cont 95 C95 [v50, (g (c48.getD 0 []) 0)] [E [(.pointer (some ⟨r0, 0, none⟩))], E [(.pointer (some ⟨r1, 0, none⟩))], E [(.func (.func 85) #[] #[(.pointer (some ⟨r1, 0, none⟩))])], E [(.int .i64 1)], E [(.int .i64 1)], E [(.pointer (some ⟨r0, 20, none⟩)), (.pointer (some ⟨r0, 21, none⟩)), (.pointer (some ⟨r0, 22, none⟩)), (.pointer (some ⟨r0, 23, none⟩))], E [(.int .i64 1)], E [(g vs 21)], E [v43], E [(.pointer (some ⟨r0, 0, none⟩)), (g vs 0), (g vs 1), (g vs 2), (g vs 3), (g vs 4), (g vs 5), (g vs 6), (g vs 7), (g vs 8), (g vs 9), (g vs 10), (g vs 11), (g vs 12), (g vs 13), (g vs 14), (g vs 15), (g vs 16), (g vs 17), (g vs 18), (g vs 19), (g vs 20), (g vs 21), (g vs 22), (g vs 23), (g vs 24), (g vs 25), (g vs 26), (g vs 27), (g vs 28), (g vs 29), (g vs 30), (g vs 31), (g vs 32), (g vs 33), (g vs 34), (g vs 35), (g vs 36), (g vs 37)], E [(.pointer (some ⟨r1, 0, none⟩)), (.tuple #[])]])) (
                          .chk (.eqN r0 r0) <|
                          .pure [] .len [(g vs 22)] fun v51 =>
                          .loop 107 10 [(.int .i64 0), (g l44 1)] fun C107 l52 =>
                            .pure [] (.bin .lss .int) [(g l52 0), v51] fun v53 =>
                            .br v53 (
                              .pure [] (.idx 1) [(g vs 22), (g l52 0)] fun v54 =>
                              .load [] v54 1 fun l55 =>
                              .call false 85 [(g l55 0), (.int .i64 1), (.pointer (some ⟨r1, 0, none⟩))] [] [⟨r1, 151, [(g l52 1)]⟩] .one fun l56 c56 =>
                              .pure [] .not [(g l56 0)] fun v57 =>
                              .br v57 (
                                .ret (.bool false) []) (
                                .pure [] (.bin .add .int) [(g l52 0), (.int .i64 1)] fun v58 =>
                                .cont 107 C107 [v58, (g (c56.getD 0 []) 0)] [E [(.pointer (some ⟨r0, 0, none⟩))], E [(.pointer (some ⟨r1, 0, none⟩))], E [(.func (.func 85) #[] #[(.pointer (some ⟨r1, 0, none⟩))])], E [(.int .i64 1)], E [(.int .i64 1)], E [(.pointer (some ⟨r0, 20, none⟩)), (.pointer (some ⟨r0, 21, none⟩)), (.pointer (some ⟨r0, 22, none⟩)), (.pointer (some ⟨r0, 23, none⟩))], E [(.int .i64 2)], E [(g vs 22)], E [v51], E [(.pointer (some ⟨r0, 0, none⟩)), (g vs 0), (g vs 1), (g vs 2), (g vs 3), (g vs 4), (g vs 5), (g vs 6), (g vs 7), (g vs 8), (g vs 9), (g vs 10), (g vs 11), (g vs 12), (g vs 13), (g vs 14), (g vs 15), (g vs 16), (g vs 17), (g vs 18), (g vs 19), (g vs 20), (g vs 21), (g vs 22), (g vs 23), (g vs 24), (g vs 25), (g vs 26), (g vs 27), (g vs 28), (g vs 29), (g vs 30), (g vs 31), (g vs 32), (g vs 33), (g vs 34), (g vs 35), (g vs 36), (g vs 37)], E [(.pointer (some ⟨r1, 0, none⟩)), (.tuple #[])]])) (
                              .chk (.eqN r0 r0) <|
                              .pure [] .len [(g vs 23)] fun v59 =>
                              .loop 119 10 [(.int .i64 0), (g l52 1)] fun C119 l60 =>
                                .pure [] (.bin .lss .int) [(g l60 0), v59] fun v61 =>
                                .br v61 (
                                  .pure [] (.idx 1) [(g vs 23), (g l60 0)] fun v62 =>
                                  .load [] v62 1 fun l63 =>
                                  .call false 85 [(g l63 0), (.int .i64 1), (.pointer (some ⟨r1, 0, none⟩))] [] [⟨r1, 151, [(g l60 1)]⟩] .one fun l64 c64 =>
                                  .pure [] .not [(g l64 0)] fun v65 =>
                                  .br v65 (
                                    .ret (.bool false) []) (
                                    .pure [] (.bin .add .int) [(g l60 0), (.int .i64 1)] fun v66 =>
                                    .cont 119 C119 [v66, (g (c64.getD 0 []) 0)] [E [(.pointer (some ⟨r0, 0, none⟩))], E [(.pointer (some ⟨r1, 0, none⟩))], E [(.func (.func 85) #[] #[(.pointer (some ⟨r1, 0, none⟩))])], E [(.int .i64 1)], E [(.int .i64 1)], E [(.pointer (some ⟨r0, 20, none⟩)), (.pointer (some ⟨r0, 21, none⟩)), (.pointer (some ⟨r0, 22, none⟩)), (.pointer (some ⟨r0, 23, none⟩))], E [(.int .i64 3)], E [(g vs 23)], E [v59], E [(.pointer (some ⟨r0, 0, none⟩)), (g vs 0), (g vs 1), (g vs 2), (g vs 3), (g vs 4), (g vs 5), (g vs 6), (g vs 7), (g vs 8), (g vs 9), (g vs 10), (g vs 11), (g vs 12), (g vs 13), (g vs 14), (g vs 15), (g vs 16), (g vs 17), (g vs 18), (g vs 19), (g vs 20), (g vs 21), (g vs 22), (g vs 23), (g vs 24), (g vs 25), (g vs 26), (g vs 27), (g vs 28), (g vs 29), (g vs 30), (g vs 31), (g vs 32), (g vs 33), (g vs 34), (g vs 35), (g vs 36), (g vs 37)], E [(.pointer (some ⟨r1, 0, none⟩)), (.tuple #[])]])) (
                                  .prim (.makeMap 151 false) [] [] [] .one fun l67 _ =>
                                  .chk (.eqN r0 r0) <|
                                  .pure [] .len [(g vs 29)] fun v68 =>
                                  .loop 133 19 [(.int .i64 0), (g l60 1)] fun C133 l69 =>
                                    .pure [] (.bin .lss .int) [(g l69 0), v68] fun v70 =>
                                    .br v70 (
                                      .pure [] (.idx 5) [(g vs 29), (g l69 0)] fun v71 =>
                                      .load [] v71 5 fun l72 =>
                                      .newbox fun r2 =>
                                      .chk (.eqN r2 r2) <|
                                      .chk (.eqN r2 r2) <|
                                      .pure [] (.bin .lss .int) [(g l72 3), (.int .i64 0)] fun v73 =>
                                      .br v73 (
                                        .chk (.eqN r2 r2) <|
                                        .chk (.eqN r2 r2) <|
                                        .call false 85 [(g l72 1), (g l72 0), (.pointer (some ⟨r1, 0, none⟩))] [] [⟨r1, 151, [(g l69 1)]⟩] .one fun l74 c74 =>
                                        .pure [] .not [(g l74 0)] fun v75 =>
                                        .br v75 (
                                          .ret (.bool false) []) (
                                          .chk (.eqN r2 r2) <|
                                          .chk (.eqN r2 r2) <|
                                          .prim (.mapUpdate 151) [(g l67 0), (g l72 1), (g l72 2)] [] [] .one fun l76 _ =>
                                          .pure [] (.bin .add .int) [(g l69 0), (.int .i64 1)] fun v77 =>
                                          .cont 133 C133 [v77, (g (c74.getD 0 []) 0)] [E [(.pointer (some ⟨r0, 0, none⟩))], E [(.pointer (some ⟨r1, 0, none⟩))], E [(.func (.func 85) #[] #[(.pointer (some ⟨r1, 0, none⟩))])], E [(g l67 0)], E [(g vs 29)], E [v68], E [(.pointer (some ⟨r0, 0, none⟩)), (g vs 0), (g vs 1), (g vs 2), (g vs 3), (g vs 4), (g vs 5), (g vs 6), (g vs 7), (g vs 8), (g vs 9), (g vs 10), (g vs 11), (g vs 12), (g vs 13), (g vs 14), (g vs 15), (g vs 16), (g vs 17), (g vs 18), (g vs 19), (g vs 20), (g vs 21), (g vs 22), (g vs 23), (g vs 24), (g vs 25), (g vs 26), (g vs 27), (g vs 28), (g vs 29), (g vs 30), (g vs 31), (g vs 32), (g vs 33), (g vs 34), (g vs 35), (g vs 36), (g vs 37)], E [(.pointer (some ⟨r1, 0, none⟩)), (.tuple #[])]])) (
                                        .pure [] (.bin .add .int) [(g l69 0), (.int .i64 1)] fun v78 =>
                                        .cont 133 C133 [v78, (g l69 1)] [E [(.pointer (some ⟨r0, 0, none⟩))], E [(.pointer (some ⟨r1, 0, none⟩))], E [(.func (.func 85) #[] #[(.pointer (some ⟨r1, 0, none⟩))])], E [(g l67 0)], E [(g vs 29)], E [v68], E [(.pointer (some ⟨r0, 0, none⟩)), (g vs 0), (g vs 1), (g vs 2), (g vs 3), (g vs 4), (g vs 5), (g vs 6), (g vs 7), (g vs 8), (g vs 9), (g vs 10), (g vs 11), (g vs 12), (g vs 13), (g vs 14), (g vs 15), (g vs 16), (g vs 17), (g vs 18), (g vs 19), (g vs 20), (g vs 21), (g vs 22), (g vs 23), (g vs 24), (g vs 25), (g vs 26), (g vs 27), (g vs 28), (g vs 29), (g vs 30), (g vs 31), (g vs 32), (g vs 33), (g vs 34), (g vs 35), (g vs 36), (g vs 37)], E [(.pointer (some ⟨r1, 0, none⟩)), (.tuple #[])]])) (
                                      .chk (.eqN r0 r0) <|
                                      .pure [] .len [(g vs 0)] fun v79 =>
                                      .loop 139 27 [(.int .i64 0)] fun C139 l80 =>
                                        .pure [] (.bin .lss .int) [(g l80 0), v79] fun v81 =>
                                        .br v81 (
                                          .pure [] (.idx 12) [(g vs 0), (g l80 0)] fun v82 =>
                                          .load [] v82 12 fun l83 =>
                                          .newbox fun r3 =>
                                          .chk (.eqN r3 r3) <|
                                          .chk (.eqN r1 r1) <|
                                          .chk (.eqN r3 r3) <|
                                          .prim (.lookup 151 true) [(g l69 1), (g l83 0)] [] [] (.tup [none, none]) fun l84 _ =>
                                          .chk (.eqN r3 r3) <|
                                          .prim (.lookup 151 true) [(g l67 0), (g l83 0)] [] [] (.tup [none, none]) fun l85 _ =>
                                          .chk (.eqN r3 r3) <|
                                          .call true 36 [(.agg #[(g l83 0), (g l83 1), (g l83 2), (g l83 3), (g l83 4), (g l83 5), (g l83 6), (g l83 7), (g l83 8), (g l83 9), (g l83 10), (g l83 11)])] [] [] .one fun l86 _ =>
                                          .pure [] .not [(g l86 0)] fun v87 =>
                                          .chk (.eqV v87 v87) <|
                                          .pure [] (.bin .gtr .int) [(g l80 0), (.int .i64 0)] fun v88 =>
                                          .chk (.eqV v87 v87) <|
                                          .chk (.eqN r0 r0) <|
                                          .chk (.eqV v88 v88) <|
                                          .chk (.eqV v87 v87) <|
                                          .chk (.eqV v88 v88) <|
                                          .chk (.eqV v87 v87) <|
                                          .pure [] (.bin .sub .int) [(g l80 0), (.int .i64 1)] fun v89 =>
                                          .chk (.eqV v88 v88) <|
                                          .chk (.eqV v87 v87) <|
                                          .chk (.eqV v88 v88) <|
                                          .chk (.eqV v87 v87) <|
                                          .pure [(v88, true), (v87, false)] (.idx 12) [(g vs 0), v89] fun v90 =>
                                          .chk (.ptr [(v88, true), (v87, false)] v90) <|
                                          .chk (.eqV v88 v88) <|
                                          .chk (.eqV v87 v87) <|
                                          .chk (.eqV v88 v88) <|
                                          .chk (.eqV v87 v87) <|
                                          .load [(v88, true), (v87, false)] v90 1 fun l91 =>
                                          .chk (.eqN r3 r3) <|
                                          .chk (.eqV v88 v88) <|
                                          .chk (.eqV v87 v87) <|
                                          .chk (.eqV v88 v88) <|
                                          .chk (.eqV v87 v87) <|
                                          .chk (.eqV v88 v88) <|
                                          .chk (.eqV v87 v87) <|
                                          .pure [] (.bin .geq .int) [(g l91 0), (g l83 0)] fun v92 =>
                                          .chk (.eqV v87 v87) <|
                                          .chk (.eqV v88 v88) <|
                                          .chk (.eqV v87 v87) <|
                                          .pure [] .pick [v88, v92, (.bool false)] fun v93 =>
                                          .chk (.eqV v87 v87) <|
                                          .pure [] .pick [v87, (.bool true), v93] fun v94 =>
                                          .chk (.eqV v94 v94) <|
                                          .pure [] .not [(g l84 1)] fun v95 =>
                                          .chk (.eqV v94 v94) <|
                                          .pure [] .pick [v94, (.bool true), v95] fun v96 =>
                                          .chk (.eqN r3 r3) <|
                                          .chk (.eqV v96 v96) <|
                                          .chk (.eqV v96 v96) <|
                                          .chk (.eqV v96 v96) <|
                                          .pure [] (.bin .neq .int) [(g l84 0), (g l83 2)] fun v97 =>
                                          .chk (.eqV v96 v96) <|
                                          .pure [] .pick [v96, (.bool true), v97] fun v98 =>
                                          .chk (.eqV v98 v98) <|
                                          .chk (.eqN r3 r3) <|
                                          .chk (.eqV (g l85 1) (g l85 1)) <|
                                          .chk (.eqV v98 v98) <|
                                          .chk (.eqV (g l85 1) (g l85 1)) <|
                                          .chk (.eqV v98 v98) <|
                                          .chk (.eqV (g l85 1) (g l85 1)) <|
                                          .chk (.eqV v98 v98) <|
                                          .pure [] (.bin .neq .int) [(g l85 0), (g l83 1)] fun v99 =>
                                          .chk (.eqV v98 v98) <|
                                          .chk (.eqV (g l85 1) (g l85 1)) <|
                                          .chk (.eqV v98 v98) <|
                                          .pure [] .pick [(g l85 1), v99, (.bool false)] fun v100 =>
                                          .chk (.eqV v98 v98) <|
                                          .pure [] .pick [v98, (.bool true), v100] fun v101 =>
                                          .br v101 (
                                            .ret (.bool false) []) (
                                            .pure [] (.bin .add .int) [(g l80 0), (.int .i64 1)] fun v102 =>
                                            .cont 139 C139 [v102] [E [(.pointer (some ⟨r0, 0, none⟩))], E [(.pointer (some ⟨r1, 0, none⟩))], E [(g l67 0)], E [(g vs 0)], E [v79], E [(.pointer (some ⟨r0, 0, none⟩)), (g vs 0), (g vs 1), (g vs 2), (g vs 3), (g vs 4), (g vs 5), (g vs 6), (g vs 7), (g vs 8), (g vs 9), (g vs 10), (g vs 11), (g vs 12), (g vs 13), (g vs 14), (g vs 15), (g vs 16), (g vs 17), (g vs 18), (g vs 19), (g vs 20), (g vs 21), (g vs 22), (g vs 23), (g vs 24), (g vs 25), (g vs 26), (g vs 27), (g vs 28), (g vs 29), (g vs 30), (g vs 31), (g vs 32), (g vs 33), (g vs 34), (g vs 35), (g vs 36), (g vs 37)], E [(.pointer (some ⟨r1, 0, none⟩)), (g l69 1)]])) (
                                          .chk (.eqN r1 r1) <|
                                          .prim (.bi .len #[151] 3) [(g l69 1)] [] [] .one fun l103 _ =>
                                          .chk (.eqN r0 r0) <|
                                          .pure [] .len [(g vs 0)] fun v104 =>
                                          .pure [] (.bin .eql .int) [(g l103 0), v104] fun v105 =>
                                          .ret v105 []))))))))))
theorem T_board_placed_eq (vs : List Value) : sxFun PP Tryd.f54 (mkOpts okL [(28, [5, 6, 7, 8])] [(4, .unroll 3), (7, .unroll 5), (10, .inv [35] [1, 3, 4, 5, 21, 27, 28, 33, 34] [(1, []), (3, [0])]), (19, .inv [51] [1, 3, 4, 10, 49, 50] [(1, []), (3, [0])]), (27, .inv [74] [1, 3, 10, 72, 73] [(1, []), (3, [])])] []) vs = T_board_placed vs := by kernel_rfl
theorem run_board_placed {args vs : List Value} (ha : entryArgs PP Tryd.f54 args = some vs) (ho : Ones vs) {H : Heap} {O : Own} {Q : Value → Heap → Own → Prop} (h : (T_board_placed vs).den PP Q H O) : Triple PP F_board_placed args H O Q :=
  triple_run mixed (mkOpts_ok okL_ok _ _ _) Tryd.func54 T_board_placed_eq ha ho h

abbrev F_board_fights : FuncId := 55
/- zeitnot/board.fights -/
def T_board_fights (vs : List Value) : Tree :=
  .newbox fun r0 =>
  .chk (.eqN r0 r0) <|
  .sw (g vs 34) 0 (
    .chk (.eqN r0 r0) <|
    .chk (.eqN r0 r0) <|
    .pure [] (.bin .sub .int) [(.int .i64 1), (g vs 34)] fun v0 =>
    .sw v0 0 (
      .chk (.eqN r0 r0) <|
      .prim (.makeMap 153 false) [] [] [] .one fun l1 _ =>
      .chk (.eqN r0 r0) <|
      .pure [] .len [(g vs 31)] fun v2 =>
      .loop 23 4 [(.int .i64 0)] fun C23 l3 =>
        .pure [] (.bin .lss .int) [(g l3 0), v2] fun v4 =>
        .br v4 (
          .pure [] (.idx 1) [(g vs 31), (g l3 0)] fun v5 =>
          .load [] v5 1 fun l6 =>
          .prim (.lookup 153 false) [(g l1 0), (g l6 0)] [] [] .one fun l7 _ =>
          .br (g l7 0) (
            .ret (.bool false) []) (
            .call false 35 [(g vs 8), (g l6 0)] [] [] .one fun l8 _ =>
            .pure [] .not [(g l8 0)] fun v9 =>
            .br v9 (
              .ret (.bool false) []) (
              .prim (.mapUpdate 153) [(g l1 0), (g l6 0), (.bool true)] [] [] .one fun l10 _ =>
              .pure [] (.bin .add .int) [(g l3 0), (.int .i64 1)] fun v11 =>
              .cont 23 C23 [v11] [E [(.pointer (some ⟨r0, 0, none⟩))], E [(g vs 8)], E [(g vs 8)], E [(g l1 0)], E [(g vs 31)], E [v2], E [(.pointer (some ⟨r0, 0, none⟩)), (g vs 0), (g vs 1), (g vs 2), (g vs 3), (g vs 4), (g vs 5), (g vs 6), (g vs 7), (g vs 8), (g vs 9), (g vs 10), (g vs 11), (g vs 12), (g vs 13), (g vs 14), (g vs 15), (g vs 16), (g vs 17), (g vs 18), (g vs 19), (g vs 20), (g vs 21), (g vs 22), (g vs 23), (g vs 24), (g vs 25), (g vs 26), (g vs 27), (g vs 28), (g vs 29), (g vs 30), (g vs 31), (g vs 32), (g vs 33), (g vs 34), (g vs 35), (g vs 36), (g vs 37)]]))) (
          .chk (.eqN r0 r0) <|
          .pure [] .len [(g vs 32)] fun v12 =>
          .loop 29 11 [(.int .i64 0)] fun C29 l13 =>
            .pure [] (.bin .lss .int) [(g l13 0), v12] fun v14 =>
            .br v14 (
              .pure [] (.idx 2) [(g vs 32), (g l13 0)] fun v15 =>
              .load [] v15 2 fun l16 =>
              .newbox fun r1 =>
              .chk (.eqN r1 r1) <|
              .chk (.eqN r1 r1) <|
              .prim (.lookup 153 false) [(g l1 0), (g l16 1)] [] [] .one fun l17 _ =>
              .pure [] .not [(g l17 0)] fun v18 =>
              .br v18 (
                .ret (.bool false) []) (
                .chk (.eqN r1 r1) <|
                .pure [] .neg [(g l16 0)] fun v19 =>
                .prim (.lookup 153 false) [(g l1 0), v19] [] [] .one fun l20 _ =>
                .br (g l20 0) (
                  .ret (.bool false) []) (
                  .chk (.eqN r0 r0) <|
                  .chk (.eqN r1 r1) <|
                  .call false 35 [(g vs 31), (g l16 1)] [] [] .one fun l21 _ =>
                  .pure [] .not [(g l21 0)] fun v22 =>
                  .br v22 (
                    .ret (.bool false) []) (
                    .chk (.eqN r1 r1) <|
                    .call false 35 [(g vs 8), (g l16 0)] [] [] .one fun l23 _ =>
                    .pure [] .not [(g l23 0)] fun v24 =>
                    .br v24 (
                      .ret (.bool false) []) (
                      .chk (.eqN r1 r1) <|
                      .chk (.eqN r1 r1) <|
                      .pure [] .neg [(g l16 0)] fun v25 =>
                      .prim (.mapUpdate 153) [(g l1 0), (g l16 1), (.bool false)] [] [] .one fun l26 _ =>
                      .prim (.mapUpdate 153) [(g l1 0), v25, (.bool true)] [] [] .one fun l27 _ =>
                      .pure [] (.bin .add .int) [(g l13 0), (.int .i64 1)] fun v28 =>
                      .cont 29 C29 [v28] [E [(.pointer (some ⟨r0, 0, none⟩))], E [(g vs 8)], E [(g l1 0)], E [(g vs 32)], E [v12], E [(.pointer (some ⟨r0, 0, none⟩)), (g vs 0), (g vs 1), (g vs 2), (g vs 3), (g vs 4), (g vs 5), (g vs 6), (g vs 7), (g vs 8), (g vs 9), (g vs 10), (g vs 11), (g vs 12), (g vs 13), (g vs 14), (g vs 15), (g vs 16), (g vs 17), (g vs 18), (g vs 19), (g vs 20), (g vs 21), (g vs 22), (g vs 23), (g vs 24), (g vs 25), (g vs 26), (g vs 27), (g vs 28), (g vs 29), (g vs 30), (g vs 31), (g vs 32), (g vs 33), (g vs 34), (g vs 35), (g vs 36), (g vs 37)]]))))) (
              .ret (.bool true) []))) (
      .sw v0 1 (
        .chk (.eqN r0 r0) <|
        .prim (.makeMap 153 false) [] [] [] .one fun l29 _ =>
        .chk (.eqN r0 r0) <|
        .pure [] .len [(g vs 31)] fun v30 =>
        .loop 23 4 [(.int .i64 0)] fun C23 l31 =>
          .pure [] (.bin .lss .int) [(g l31 0), v30] fun v32 =>
          .br v32 (
            .pure [] (.idx 1) [(g vs 31), (g l31 0)] fun v33 =>
            .load [] v33 1 fun l34 =>
            .prim (.lookup 153 false) [(g l29 0), (g l34 0)] [] [] .one fun l35 _ =>
            .br (g l35 0) (
              .ret (.bool false) []) (
              .call false 35 [(g vs 8), (g l34 0)] [] [] .one fun l36 _ =>
              .pure [] .not [(g l36 0)] fun v37 =>
              .br v37 (
                .ret (.bool false) []) (
                .prim (.mapUpdate 153) [(g l29 0), (g l34 0), (.bool true)] [] [] .one fun l38 _ =>
                .pure [] (.bin .add .int) [(g l31 0), (.int .i64 1)] fun v39 =>
                .cont 23 C23 [v39] [E [(.pointer (some ⟨r0, 0, none⟩))], E [(g vs 8)], E [(g vs 22)], E [(g l29 0)], E [(g vs 31)], E [v30], E [(.pointer (some ⟨r0, 0, none⟩)), (g vs 0), (g vs 1), (g vs 2), (g vs 3), (g vs 4), (g vs 5), (g vs 6), (g vs 7), (g vs 8), (g vs 9), (g vs 10), (g vs 11), (g vs 12), (g vs 13), (g vs 14), (g vs 15), (g vs 16), (g vs 17), (g vs 18), (g vs 19), (g vs 20), (g vs 21), (g vs 22), (g vs 23), (g vs 24), (g vs 25), (g vs 26), (g vs 27), (g vs 28), (g vs 29), (g vs 30), (g vs 31), (g vs 32), (g vs 33), (g vs 34), (g vs 35), (g vs 36), (g vs 37)]]))) (
            .chk (.eqN r0 r0) <|
            .pure [] .len [(g vs 32)] fun v40 =>
            .loop 29 11 [(.int .i64 0)] fun C29 l41 =>
              .pure [] (.bin .lss .int) [(g l41 0), v40] fun v42 =>
              .br v42 (
                .pure [] (.idx 2) [(g vs 32), (g l41 0)] fun v43 =>
                .load [] v43 2 fun l44 =>
                .newbox fun r2 =>
                .chk (.eqN r2 r2) <|
                .chk (.eqN r2 r2) <|
                .prim (.lookup 153 false) [(g l29 0), (g l44 1)] [] [] .one fun l45 _ =>
                .pure [] .not [(g l45 0)] fun v46 =>
                .br v46 (
                  .ret (.bool false) []) (
                  .chk (.eqN r2 r2) <|
                  .pure [] .neg [(g l44 0)] fun v47 =>
                  .prim (.lookup 153 false) [(g l29 0), v47] [] [] .one fun l48 _ =>
                  .br (g l48 0) (
                    .ret (.bool false) []) (
                    .chk (.eqN r0 r0) <|
                    .chk (.eqN r2 r2) <|
                    .call false 35 [(g vs 31), (g l44 1)] [] [] .one fun l49 _ =>
                    .pure [] .not [(g l49 0)] fun v50 =>
                    .br v50 (
                      .ret (.bool false) []) (
                      .chk (.eqN r2 r2) <|
                      .call false 35 [(g vs 22), (g l44 0)] [] [] .one fun l51 _ =>
                      .pure [] .not [(g l51 0)] fun v52 =>
                      .br v52 (
                        .ret (.bool false) []) (
                        .chk (.eqN r2 r2) <|
                        .chk (.eqN r2 r2) <|
                        .pure [] .neg [(g l44 0)] fun v53 =>
                        .prim (.mapUpdate 153) [(g l29 0), (g l44 1), (.bool false)] [] [] .one fun l54 _ =>
                        .prim (.mapUpdate 153) [(g l29 0), v53, (.bool true)] [] [] .one fun l55 _ =>
                        .pure [] (.bin .add .int) [(g l41 0), (.int .i64 1)] fun v56 =>
                        .cont 29 C29 [v56] [E [(.pointer (some ⟨r0, 0, none⟩))], E [(g vs 22)], E [(g l29 0)], E [(g vs 32)], E [v40], E [(.pointer (some ⟨r0, 0, none⟩)), (g vs 0), (g vs 1), (g vs 2), (g vs 3), (g vs 4), (g vs 5), (g vs 6), (g vs 7), (g vs 8), (g vs 9), (g vs 10), (g vs 11), (g vs 12), (g vs 13), (g vs 14), (g vs 15), (g vs 16), (g vs 17), (g vs 18), (g vs 19), (g vs 20), (g vs 21), (g vs 22), (g vs 23), (g vs 24), (g vs 25), (g vs 26), (g vs 27), (g vs 28), (g vs 29), (g vs 30), (g vs 31), (g vs 32), (g vs 33), (g vs 34), (g vs 35), (g vs 36), (g vs 37)]]))))) (
                .ret (.bool true) []))) (
        .stuck 901))) (
    .sw (g vs 34) 1 (
      .chk (.eqN r0 r0) <|
      .chk (.eqN r0 r0) <|
      .pure [] (.bin .sub .int) [(.int .i64 1), (g vs 34)] fun v57 =>
      .sw v57 0 (
        .chk (.eqN r0 r0) <|
        .prim (.makeMap 153 false) [] [] [] .one fun l58 _ =>
        .chk (.eqN r0 r0) <|
        .pure [] .len [(g vs 31)] fun v59 =>
        .loop 23 4 [(.int .i64 0)] fun C23 l60 =>
          .pure [] (.bin .lss .int) [(g l60 0), v59] fun v61 =>
          .br v61 (
            .pure [] (.idx 1) [(g vs 31), (g l60 0)] fun v62 =>
            .load [] v62 1 fun l63 =>
            .prim (.lookup 153 false) [(g l58 0), (g l63 0)] [] [] .one fun l64 _ =>
            .br (g l64 0) (
              .ret (.bool false) []) (
              .call false 35 [(g vs 22), (g l63 0)] [] [] .one fun l65 _ =>
              .pure [] .not [(g l65 0)] fun v66 =>
              .br v66 (
                .ret (.bool false) []) (
                .prim (.mapUpdate 153) [(g l58 0), (g l63 0), (.bool true)] [] [] .one fun l67 _ =>
                .pure [] (.bin .add .int) [(g l60 0), (.int .i64 1)] fun v68 =>
                .cont 23 C23 [v68] [E [(.pointer (some ⟨r0, 0, none⟩))], E [(g vs 22)], E [(g vs 8)], E [(g l58 0)], E [(g vs 31)], E [v59], E [(.pointer (some ⟨r0, 0, none⟩)), (g vs 0), (g vs 1), (g vs 2), (g vs 3), (g vs 4), (g vs 5), (g vs 6), (g vs 7), (g vs 8), (g vs 9), (g vs 10), (g vs 11), (g vs 12), (g vs 13), (g vs 14), (g vs 15), (g vs 16), (g vs 17), (g vs 18), (g vs 19), (g vs 20), (g vs 21), (g vs 22), (g vs 23), (g vs 24), (g vs 25), (g vs 26), (g vs 27), (g vs 28), (g vs 29), (g vs 30), (g vs 31), (g vs 32), (g vs 33), (g vs 34), (g vs 35), (g vs 36), (g vs 37)]]))) (
            .chk (.eqN r0 r0) <|
            .pure [] .len [(g vs 32)] fun v69 =>
            .loop 29 11 [(.int .i64 0)] fun C29 l70 =>
              .pure [] (.bin .lss .int) [(g l70 0), v69] fun v71 =>
              .br v71 (
                .pure [] (.idx 2) [(g vs 32), (g l70 0)] fun v72 =>
                .load [] v72 2 fun l73 =>
                .newbox fun r3 =>
                .chk (.eqN r3 r3) <|
                .chk (.eqN r3 r3) <|
                .prim (.lookup 153 false) [(g l58 0), (g l73 1)] [] [] .one fun l74 _ =>
                .pure [] .not [(g l74 0)] fun v75 =>
                .br v75 (
                  .ret (.bool false) []) (
                  .chk (.eqN r3 r3) <|
                  .pure [] .neg [(g l73 0)] fun v76 =>
                  .prim (.lookup 153 false) [(g l58 0), v76] [] [] .one fun l77 _ =>
                  .br (g l77 0) (
                    .ret (.bool false) []) (
                    .chk (.eqN r0 r0) <|
                    .chk (.eqN r3 r3) <|
                    .call false 35 [(g vs 31), (g l73 1)] [] [] .one fun l78 _ =>
                    .pure [] .not [(g l78 0)] fun v79 =>
                    .br v79 (
                      .ret (.bool false) []) (
                      .chk (.eqN r3 r3) <|
                      .call false 35 [(g vs 8), (g l73 0)] [] [] .one fun l80 _ =>
                      .pure [] .not [(g l80 0)] fun v81 =>
                      .br v81 (
                        .ret (.bool false) []) (
                        .chk (.eqN r3 r3) <|
                        .chk (.eqN r3 r3) <|
                        .pure [] .neg [(g l73 0)] fun v82 =>
                        .prim (.mapUpdate 153) [(g l58 0), (g l73 1), (.bool false)] [] [] .one fun l83 _ =>
                        .prim (.mapUpdate 153) [(g l58 0), v82, (.bool true)] [] [] .one fun l84 _ =>
                        .pure [] (.bin .add .int) [(g l70 0), (.int .i64 1)] fun v85 =>
                        .cont 29 C29 [v85] [E [(.pointer (some ⟨r0, 0, none⟩))], E [(g vs 8)], E [(g l58 0)], E [(g vs 32)], E [v69], E [(.pointer (some ⟨r0, 0, none⟩)), (g vs 0), (g vs 1), (g vs 2), (g vs 3), (g vs 4), (g vs 5), (g vs 6), (g vs 7), (g vs 8), (g vs 9), (g vs 10), (g vs 11), (g vs 12), (g vs 13), (g vs 14), (g vs 15), (g vs 16), (g vs 17), (g vs 18), (g vs 19), (g vs 20), (g vs 21), (g vs 22), (g vs 23), (g vs 24), (g vs 25), (g vs 26), (g vs 27), (g vs 28), (g vs 29), (g vs 30), (g vs 31), (g vs 32), (g vs 33), (g vs 34), (g vs 35), (g vs 36), (g vs 37)]]))))) (
                .ret (.bool true) []))) (
        .sw v57 1 (
          .chk (.eqN r0 r0) <|
          .prim (.makeMap 153 false) [] [] [] .one fun l86 _ =>
          .chk (.eqN r0 r0) <|
          .pure [] .len [(g vs 31)] fun v87 =>
          .loop 23 4 [(.int .i64 0)] fun C23 l88 =>
            .pure [] (.bin .lss .int) [(g l88 0), v87] fun v89 =>
            .br v89 (
              .pure [] (.idx 1) [(g vs 31), (g l88 0)] fun v90 =>
              .load [] v90 1 fun l91 =>
              .prim (.lookup 153 false) [(g l86 0), (g l91 0)] [] [] .one fun l92 _ =>
              .br (g l92 0) (
                .ret (.bool false) []) (
                .call false 35 [(g vs 22), (g l91 0)] [] [] .one fun l93 _ =>
                .pure [] .not [(g l93 0)] fun v94 =>
                .br v94 (
                  .ret (.bool false) []) (
                  .prim (.mapUpdate 153) [(g l86 0), (g l91 0), (.bool true)] [] [] .one fun l95 _ =>
                  .pure [] (.bin .add .int) [(g l88 0), (.int .i64 1)] fun v96 =>
                  .cont 23 C23 [v96] [E [(.pointer (some ⟨r0, 0, none⟩))], E [(g vs 22)], E [(g vs 22)], E [(g l86 0)], E [(g vs 31)], E [v87], E [(.pointer (some ⟨r0, 0, none⟩)), (g vs 0), (g vs 1), (g vs 2), (g vs 3), (g vs 4), (g vs 5), (g vs 6), (g vs 7), (g vs 8), (g vs 9), (g vs 10), (g vs 11), (g vs 12), (g vs 13), (g vs 14), (g vs 15), (g vs 16), (g vs 17), (g vs 18), (g vs 19), (g vs 20), (g vs 21), (g vs 22), (g vs 23), (g vs 24), (g vs 25), (g vs 26), (g vs 27), (g vs 28), (g vs 29), (g vs 30), (g vs 31), (g vs 32), (g vs 33), (g vs 34), (g vs 35), (g vs 36), (g vs 37)]]))) (
              .chk (.eqN r0 r0) <|
              .pure [] .len [(g vs 32)] fun v97 =>
              .loop 29 11 [(.int .i64 0)] fun C29 l98 =>
                .pure [] (.bin .lss .int) [(g l98 0), v97] fun v99 =>
                .br v99 (
                  .pure [] (.idx 2) [(g vs 32), (g l98 0)] fun v100 =>
                  .load [] v100 2 fun l101 =>
                  .newbox fun r4 =>
                  .chk (.eqN r4 r4) <|
                  .chk (.eqN r4 r4) <|
                  .prim (.lookup 153 false) [(g l86 0), (g l101 1)] [] [] .one fun l102 _ =>
                  .pure [] .not [(g l102 0)] fun v103 =>
                  .br v103 (
                    .ret (.bool false) []) (
                    .chk (.eqN r4 r4) <|
                    .pure [] .neg [(g l101 0)] fun v104 =>
                    .prim (.lookup 153 false) [(g l86 0), v104] [] [] .one fun l105 _ =>
                    .br (g l105 0) (
                      .ret (.bool false) []) (
                      .chk (.eqN r0 r0) <|
                      .chk (.eqN r4 r4) <|
                      .call false 35 [(g vs 31), (g l101 1)] [] [] .one fun l106 _ =>
                      .pure [] .not [(g l106 0)] fun v107 =>
                      .br v107 (
                        .ret (.bool false) []) (
                        .chk (.eqN r4 r4) <|
                        .call false 35 [(g vs 22), (g l101 0)] [] [] .one fun l108 _ =>
                        .pure [] .not [(g l108 0)] fun v109 =>
                        .br v109 (
                          .ret (.bool false) []) (
                          .chk (.eqN r4 r4) <|
                          .chk (.eqN r4 r4) <|
                          .pure [] .neg [(g l101 0)] fun v110 =>
                          .prim (.mapUpdate 153) [(g l86 0), (g l101 1), (.bool false)] [] [] .one fun l111 _ =>
                          .prim (.mapUpdate 153) [(g l86 0), v110, (.bool true)] [] [] .one fun l112 _ =>
                          .pure [] (.bin .add .int) [(g l98 0), (.int .i64 1)] fun v113 =>
                          .cont 29 C29 [v113] [E [(.pointer (some ⟨r0, 0, none⟩))], E [(g vs 22)], E [(g l86 0)], E [(g vs 32)], E [v97], E [(.pointer (some ⟨r0, 0, none⟩)), (g vs 0), (g vs 1), (g vs 2), (g vs 3), (g vs 4), (g vs 5), (g vs 6), (g vs 7), (g vs 8), (g vs 9), (g vs 10), (g vs 11), (g vs 12), (g vs 13), (g vs 14), (g vs 15), (g vs 16), (g vs 17), (g vs 18), (g vs 19), (g vs 20), (g vs 21), (g vs 22), (g vs 23), (g vs 24), (g vs 25), (g vs 26), (g vs 27), (g vs 28), (g vs 29), (g vs 30), (g vs 31), (g vs 32), (g vs 33), (g vs 34), (g vs 35), (g vs 36), (g vs 37)]]))))) (
                  .ret (.bool true) []))) (
          .stuck 901))) (
      .stuck 901))
theorem T_board_fights_eq (vs : List Value) : sxFun PP Tryd.f55 (mkOpts okL [(28, [5, 6, 7, 8])] [(4, .inv [27] [1, 3, 4, 5, 25, 26] [(1, [])]), (11, .inv [46] [1, 4, 5, 44, 45] [(1, [])])] []) vs = T_board_fights vs := by kernel_rfl
theorem run_board_fights {args vs : List Value} (ha : entryArgs PP Tryd.f55 args = some vs) (ho : Ones vs) {H : Heap} {O : Own} {Q : Value → Heap → Own → Prop} (h : (T_board_fights vs).den PP Q H O) : Triple PP F_board_fights args H O Q :=
  triple_run mixed (mkOpts_ok okL_ok _ _ _) Tryd.func55 T_board_fights_eq ha ho h

abbrev F_slices_Clone_api_Object_api_Object : FuncId := 56
/- slices.Clone[[]zeitnot/api.Object,zeitnot/api.Object] -/
def T_slices_Clone_api_Object_api_Object (vs : List Value) : Tree :=
  .pure [] (.bin .eql .slice) [(g vs 0), (.slice none 0 0)] fun v0 =>
  .br v0 (
    .ret (.slice none 0 0) []) (
    .newbox fun r0 =>
    .prim (.bi .append #[24, 24] 24) [(.slice (some ⟨r0, 0, none⟩) 0 0), (g vs 0)] [⟨r0, 46, []⟩] [] .one fun l1 _ =>
    .ret (g l1 0) [])
theorem T_slices_Clone_api_Object_api_Object_eq (vs : List Value) : sxFun PP Tryd.f56 (mkOpts okL [(28, [5, 6, 7, 8])] [] []) vs = T_slices_Clone_api_Object_api_Object vs := by kernel_rfl
theorem run_slices_Clone_api_Object_api_Object {args vs : List Value} (ha : entryArgs PP Tryd.f56 args = some vs) (ho : Ones vs) {H : Heap} {O : Own} {Q : Value → Heap → Own → Prop} (h : (T_slices_Clone_api_Object_api_Object vs).den PP Q H O) : Triple PP F_slices_Clone_api_Object_api_Object args H O Q :=
  triple_run mixed (mkOpts_ok okL_ok _ _ _) Tryd.func56 T_slices_Clone_api_Object_api_Object_eq ha ho h

abbrev F_slices_Clone_int_int : FuncId := 57
/- slices.Clone[[]int,int] -/
def T_slices_Clone_int_int (vs : List Value) : Tree :=
  .pure [] (.bin .eql .slice) [(g vs 0), (.slice none 0 0)] fun v0 =>
  .br v0 (
    .ret (.slice none 0 0) []) (
    .newbox fun r0 =>
    .prim (.bi .append #[22, 22] 22) [(.slice (some ⟨r0, 0, none⟩) 0 0), (g vs 0)] [⟨r0, 3, []⟩] [] .one fun l1 _ =>
    .ret (g l1 0) [])
theorem T_slices_Clone_int_int_eq (vs : List Value) : sxFun PP Tryd.f57 (mkOpts okL [(28, [5, 6, 7, 8])] [] []) vs = T_slices_Clone_int_int vs := by kernel_rfl
theorem run_slices_Clone_int_int {args vs : List Value} (ha : entryArgs PP Tryd.f57 args = some vs) (ho : Ones vs) {H : Heap} {O : Own} {Q : Value → Heap → Own → Prop} (h : (T_slices_Clone_int_int vs).den PP Q H O) : Triple PP F_slices_Clone_int_int args H O Q :=
  triple_run mixed (mkOpts_ok okL_ok _ _ _) Tryd.func57 T_slices_Clone_int_int_eq ha ho h

abbrev F_slices_Clone_api_Block_api_Block : FuncId := 58
/- slices.Clone[[]zeitnot/api.Block,zeitnot/api.Block] -/
def T_slices_Clone_api_Block_api_Block (vs : List Value) : Tree :=
  .pure [] (.bin .eql .slice) [(g vs 0), (.slice none 0 0)] fun v0 =>
  .br v0 (
    .ret (.slice none 0 0) []) (
    .newbox fun r0 =>
    .prim (.bi .append #[31, 31] 31) [(.slice (some ⟨r0, 0, none⟩) 0 0), (g vs 0)] [⟨r0, 64, []⟩] [] .one fun l1 _ =>
    .ret (g l1 0) [])
theorem T_slices_Clone_api_Block_api_Block_eq (vs : List Value) : sxFun PP Tryd.f58 (mkOpts okL [(28, [5, 6, 7, 8])] [] []) vs = T_slices_Clone_api_Block_api_Block vs := by kernel_rfl
theorem run_slices_Clone_api_Block_api_Block {args vs : List Value} (ha : entryArgs PP Tryd.f58 args = some vs) (ho : Ones vs) {H : Heap} {O : Own} {Q : Value → Heap → Own → Prop} (h : (T_slices_Clone_api_Block_api_Block vs).den PP Q H O) : Triple PP F_slices_Clone_api_Block_api_Block args H O Q :=
  triple_run mixed (mkOpts_ok okL_ok _ _ _) Tryd.func58 T_slices_Clone_api_Block_api_Block_eq ha ho h

abbrev F_board_items : FuncId := 59
/- zeitnot/board.items -/
def T_board_items (vs : List Value) : Tree :=
  .call false 86 [(g vs 0)] [] [] .one fun l0 _ =>
  .pure [] .len [(g l0 0)] fun v1 =>
  .loop 7 3 [(.int .i64 0)] fun C7 l2 =>
    .pure [] (.bin .lss .int) [(g l2 0), v1] fun v3 =>
    .br v3 (
      .pure [] (.idx 5) [(g l0 0), (g l2 0)] fun v4 =>
      .chk (.ptr [] v4) <|
      .load [] (ptrAdd v4 4) 1 fun l5 =>
      .call false 87 [(g l5 0)] [] [] .one fun l6 _ =>
      .pure [] (.idx 5) [(g l0 0), (g l2 0)] fun v7 =>
      .chk (.ptr [] v7) <|
      .chk (.ptr [] (ptrAdd v7 4)) <|
      .store (ptrAdd v7 4) [(g l6 0)] <|
      .pure [] (.bin .add .int) [(g l2 0), (.int .i64 1)] fun v8 =>
      .cont 7 C7 [v8] [E [(g l0 0)], E [v1]]) (
      .ret (g l0 0) [])
theorem T_board_items_eq (vs : List Value) : sxFun PP Tryd.f59 (mkOpts okL [(28, [5, 6, 7, 8])] [(3, .inv [9] [3, 8] [])] []) vs = T_board_items vs := by kernel_rfl
theorem run_board_items {args vs : List Value} (ha : entryArgs PP Tryd.f59 args = some vs) (ho : Ones vs) {H : Heap} {O : Own} {Q : Value → Heap → Own → Prop} (h : (T_board_items vs).den PP Q H O) : Triple PP F_board_items args H O Q :=
  triple_run mixed (mkOpts_ok okL_ok _ _ _) Tryd.func59 T_board_items_eq ha ho h

abbrev F_object_Rest : FuncId := 60
/- zeitnot/object.Rest -/
def T_object_Rest (vs : List Value) : Tree :=
  .newbox fun r0 =>
  .newbox fun r1 =>
  .chk (.eqN r0 r0) <|
  .chk (.eqN r0 r0) <|
  .chk (.eqN r0 r0) <|
  .chk (.eqN r0 r0) <|
  .chk (.eqN r1 r1) <|
  .chk (.eqN r1 r1) <|
  .ret (.agg #[(g vs 0), (g vs 1), (g vs 2), (g vs 3), (g vs 4), (.int .i64 0), (g vs 6), (.int .i64 0), (.int .i64 0), (g vs 9), (g vs 10), (g vs 11)]) []
theorem T_object_Rest_eq (vs : List Value) : sxFun PP Tryd.f60 (mkOpts okL [(28, [5, 6, 7, 8])] [] []) vs = T_object_Rest vs := by kernel_rfl
theorem run_object_Rest {args vs : List Value} (ha : entryArgs PP Tryd.f60 args = some vs) (ho : Ones vs) {H : Heap} {O : Own} {Q : Value → Heap → Own → Prop} (h : (T_object_Rest vs).den PP Q H O) : Triple PP F_object_Rest args H O Q :=
  triple_run mixed (mkOpts_ok okL_ok _ _ _) Tryd.func60 T_object_Rest_eq ha ho h

abbrev F_board_out_1 : FuncId := 61
/- zeitnot/board.out$1 -/
def T_board_out_1 (vs : List Value) : Tree :=
  .load [] (g vs 1) 1 fun l0 =>
  .pure [] (.bin .eql .int) [(g vs 0), (g l0 0)] fun v1 =>
  .ret v1 []
theorem T_board_out_1_eq (vs : List Value) : sxFun PP Tryd.f61 (mkOpts okL [(28, [5, 6, 7, 8])] [] []) vs = T_board_out_1 vs := by kernel_rfl
theorem run_board_out_1 {args vs : List Value} (ha : entryArgs PP Tryd.f61 args = some vs) (ho : Ones vs) {H : Heap} {O : Own} {Q : Value → Heap → Own → Prop} (h : (T_board_out_1 vs).den PP Q H O) : Triple PP F_board_out_1 args H O Q :=
  triple_run mixed (mkOpts_ok okL_ok _ _ _) Tryd.func61 T_board_out_1_eq ha ho h

abbrev F_slices_DeleteFunc_int_int : FuncId := 62
/- slices.DeleteFunc[[]int,int] -/
def T_slices_DeleteFunc_int_int (vs : List Value) : Tree :=
  .call false 88 [(g vs 0), (g vs 1)] [] [] .one fun l0 _ =>
  .pure [] (.bin .eql .int) [(g l0 0), (.int .i64 (-1))] fun v1 =>
  .br v1 (
    .ret (g vs 0) []) (
    .pure [] (.bin .add .int) [(g l0 0), (.int .i64 1)] fun v2 =>
    .loop 10 5 [(g l0 0), v2] fun C10 l3 =>
      .pure [] .len [(g vs 0)] fun v4 =>
      .pure [] (.bin .lss .int) [(g l3 1), v4] fun v5 =>
      .br v5 (
        .pure [] (.idx 1) [(g vs 0), (g l3 1)] fun v6 =>
        .load [] v6 1 fun l7 =>
        .callv false (g vs 1) [(g l7 0)] [] [] .one fun l8 _ =>
        .pure [] .not [(g l8 0)] fun v9 =>
        .br v9 (
          .pure [] (.idx 1) [(g vs 0), (g l3 0)] fun v10 =>
          .chk (.ptr [] v10) <|
          .store v10 [(g l7 0)] <|
          .pure [] (.bin .add .int) [(g l3 0), (.int .i64 1)] fun v11 =>
          .pure [] (.bin .add .int) [(g l3 1), (.int .i64 1)] fun v12 =>
          .cont 10 C10 [v11, v12] [E [(g vs 0)], E [(g vs 1)]]) (
          .pure [] (.bin .add .int) [(g l3 1), (.int .i64 1)] fun v13 =>
          .cont 10 C10 [(g l3 0), v13] [E [(g vs 0)], E [(g vs 1)]])) (
        .pure [] (.slc 1 true false false) [(g vs 0), (g l3 0)] fun v14 =>
        .prim (.bi .clear #[22] 0) [v14] [] [] .one fun l15 _ =>
        .pure [] (.slc 1 false true false) [(g vs 0), (g l3 0)] fun v16 =>
        .ret v16 []))
theorem T_slices_DeleteFunc_int_int_eq (vs : List Value) : sxFun PP Tryd.f62 (mkOpts okL [(28, [5, 6, 7, 8])] [(5, .inv [5, 6] [0, 1] [])] []) vs = T_slices_DeleteFunc_int_int vs := by kernel_rfl
theorem run_slices_DeleteFunc_int_int {args vs : List Value} (ha : entryArgs PP Tryd.f62 args = some vs) (ho : Ones vs) {H : Heap} {O : Own} {Q : Value → Heap → Own → Prop} (h : (T_slices_DeleteFunc_int_int vs).den PP Q H O) : Triple PP F_slices_DeleteFunc_int_int args H O Q :=
  triple_run mixed (mkOpts_ok okL_ok _ _ _) Tryd.func62 T_slices_DeleteFunc_int_int_eq ha ho h

abbrev F_slices_DeleteFunc_api_Item_api_Item : FuncId := 63
/- slices.DeleteFunc[[]zeitnot/api.Item,zeitnot/api.Item] -/
def T_slices_DeleteFunc_api_Item_api_Item (vs : List Value) : Tree :=
  .call false 45 [(g vs 0), (g vs 1)] [] [] .one fun l0 _ =>
  .pure [] (.bin .eql .int) [(g l0 0), (.int .i64 (-1))] fun v1 =>
  .br v1 (
    .ret (g vs 0) []) (
    .pure [] (.bin .add .int) [(g l0 0), (.int .i64 1)] fun v2 =>
    .loop 10 5 [(g l0 0), v2] fun C10 l3 =>
      .pure [] .len [(g vs 0)] fun v4 =>
      .pure [] (.bin .lss .int) [(g l3 1), v4] fun v5 =>
      .br v5 (
        .pure [] (.idx 5) [(g vs 0), (g l3 1)] fun v6 =>
        .load [] v6 5 fun l7 =>
        .newbox fun r0 =>
        .chk (.eqN r0 r0) <|
        .chk (.eqN r0 r0) <|
        .callv false (g vs 1) [(.agg #[(g l7 0), (g l7 1), (g l7 2), (g l7 3), (g l7 4)])] [] [] .one fun l8 _ =>
        .pure [] .not [(g l8 0)] fun v9 =>
        .br v9 (
          .chk (.eqN r0 r0) <|
          .pure [] (.idx 5) [(g vs 0), (g l3 0)] fun v10 =>
          .chk (.ptr [] v10) <|
          .store v10 [(g l7 0), (g l7 1), (g l7 2), (g l7 3), (g l7 4)] <|
          .pure [] (.bin .add .int) [(g l3 0), (.int .i64 1)] fun v11 =>
          .pure [] (.bin .add .int) [(g l3 1), (.int .i64 1)] fun v12 =>
          .cont 10 C10 [v11, v12] [E [(g vs 0)], E [(g vs 1)]]) (
          .pure [] (.bin .add .int) [(g l3 1), (.int .i64 1)] fun v13 =>
          .cont 10 C10 [(g l3 0), v13] [E [(g vs 0)], E [(g vs 1)]])) (
        .pure [] (.slc 5 true false false) [(g vs 0), (g l3 0)] fun v14 =>
        .prim (.bi .clear #[30] 0) [v14] [] [] .one fun l15 _ =>
        .pure [] (.slc 5 false true false) [(g vs 0), (g l3 0)] fun v16 =>
        .ret v16 []))
theorem T_slices_DeleteFunc_api_Item_api_Item_eq (vs : List Value) : sxFun PP Tryd.f63 (mkOpts okL [(28, [5, 6, 7, 8])] [(5, .inv [5, 6] [0, 1] [])] []) vs = T_slices_DeleteFunc_api_Item_api_Item vs := by kernel_rfl
theorem run_slices_DeleteFunc_api_Item_api_Item {args vs : List Value} (ha : entryArgs PP Tryd.f63 args = some vs) (ho : Ones vs) {H : Heap} {O : Own} {Q : Value → Heap → Own → Prop} (h : (T_slices_DeleteFunc_api_Item_api_Item vs).den PP Q H O) : Triple PP F_slices_DeleteFunc_api_Item_api_Item args H O Q :=
  triple_run mixed (mkOpts_ok okL_ok _ _ _) Tryd.func63 T_slices_DeleteFunc_api_Item_api_Item_eq ha ho h

abbrev F_board_out_2 : FuncId := 64
/- zeitnot/board.out$2 -/
def T_board_out_2 (vs : List Value) : Tree :=
  .newbox fun r0 =>
  .chk (.eqN r0 r0) <|
  .pure [] (.bin .lss .int) [(g vs 3), (.int .i64 0)] fun v0 =>
  .chk (.eqN r0 r0) <|
  .chk (.eqV v0 v0) <|
  .load [(v0, true)] (g vs 5) 1 fun l1 =>
  .chk (.eqV v0 v0) <|
  .chk (.eqV v0 v0) <|
  .pure [] (.bin .eql .int) [(g vs 1), (g l1 0)] fun v2 =>
  .chk (.eqV v0 v0) <|
  .pure [] .pick [v0, v2, (.bool false)] fun v3 =>
  .ret v3 []
theorem T_board_out_2_eq (vs : List Value) : sxFun PP Tryd.f64 (mkOpts okL [(28, [5, 6, 7, 8])] [] []) vs = T_board_out_2 vs := by kernel_rfl
theorem run_board_out_2 {args vs : List Value} (ha : entryArgs PP Tryd.f64 args = some vs) (ho : Ones vs) {H : Heap} {O : Own} {Q : Value → Heap → Own → Prop} (h : (T_board_out_2 vs).den PP Q H O) : Triple PP F_board_out_2 args H O Q :=
  triple_run mixed (mkOpts_ok okL_ok _ _ _) Tryd.func64 T_board_out_2_eq ha ho h

abbrev F_slices_DeleteFunc_api_Block_api_Block : FuncId := 65
/- slices.DeleteFunc[[]zeitnot/api.Block,zeitnot/api.Block] -/
def T_slices_DeleteFunc_api_Block_api_Block (vs : List Value) : Tree :=
  .call false 89 [(g vs 0), (g vs 1)] [] [] .one fun l0 _ =>
  .pure [] (.bin .eql .int) [(g l0 0), (.int .i64 (-1))] fun v1 =>
  .br v1 (
    .ret (g vs 0) []) (
    .pure [] (.bin .add .int) [(g l0 0), (.int .i64 1)] fun v2 =>
    .loop 10 5 [(g l0 0), v2] fun C10 l3 =>
      .pure [] .len [(g vs 0)] fun v4 =>
      .pure [] (.bin .lss .int) [(g l3 1), v4] fun v5 =>
      .br v5 (
        .pure [] (.idx 2) [(g vs 0), (g l3 1)] fun v6 =>
        .load [] v6 2 fun l7 =>
        .newbox fun r0 =>
        .chk (.eqN r0 r0) <|
        .chk (.eqN r0 r0) <|
        .callv false (g vs 1) [(.agg #[(g l7 0), (g l7 1)])] [] [] .one fun l8 _ =>
        .pure [] .not [(g l8 0)] fun v9 =>
        .br v9 (
          .chk (.eqN r0 r0) <|
          .pure [] (.idx 2) [(g vs 0), (g l3 0)] fun v10 =>
          .chk (.ptr [] v10) <|
          .store v10 [(g l7 0), (g l7 1)] <|
          .pure [] (.bin .add .int) [(g l3 0), (.int .i64 1)] fun v11 =>
          .pure [] (.bin .add .int) [(g l3 1), (.int .i64 1)] fun v12 =>
          .cont 10 C10 [v11, v12] [E [(g vs 0)], E [(g vs 1)]]) (
          .pure [] (.bin .add .int) [(g l3 1), (.int .i64 1)] fun v13 =>
          .cont 10 C10 [(g l3 0), v13] [E [(g vs 0)], E [(g vs 1)]])) (
        .pure [] (.slc 2 true false false) [(g vs 0), (g l3 0)] fun v14 =>
        .prim (.bi .clear #[31] 0) [v14] [] [] .one fun l15 _ =>
        .pure [] (.slc 2 false true false) [(g vs 0), (g l3 0)] fun v16 =>
        .ret v16 []))
theorem T_slices_DeleteFunc_api_Block_api_Block_eq (vs : List Value) : sxFun PP Tryd.f65 (mkOpts okL [(28, [5, 6, 7, 8])] [(5, .inv [5, 6] [0, 1] [])] []) vs = T_slices_DeleteFunc_api_Block_api_Block vs := by kernel_rfl
theorem run_slices_DeleteFunc_api_Block_api_Block {args vs : List Value} (ha : entryArgs PP Tryd.f65 args = some vs) (ho : Ones vs) {H : Heap} {O : Own} {Q : Value → Heap → Own → Prop} (h : (T_slices_DeleteFunc_api_Block_api_Block vs).den PP Q H O) : Triple PP F_slices_DeleteFunc_api_Block_api_Block args H O Q :=
  triple_run mixed (mkOpts_ok okL_ok _ _ _) Tryd.func65 T_slices_DeleteFunc_api_Block_api_Block_eq ha ho h

end Go.Proofs.YtjaegdkkiefchaaDoor
