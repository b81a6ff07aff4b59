/- The trees of the functions of this seat: printed by a tool of mine; each by the kernel's reckoning equal to the evaluator's. -/
import Derived.Test.YtjaegdkkiefchaaDoorBT1
namespace Go.Proofs.YtjaegdkkiefchaaDoor
open Go Go.Sx
set_option maxRecDepth 100000
abbrev F_board_out_3 : FuncId := 66
/- zeitnot/board.out$3 -/
def T_board_out_3 (vs : List Value) : Tree :=
  .newbox fun r0 =>
  .chk (.eqN r0 r0) <|
  .load [] (g vs 2) 1 fun l0 =>
  .pure [] (.bin .eql .int) [(g vs 0), (g l0 0)] fun v1 =>
  .chk (.eqN r0 r0) <|
  .chk (.eqV v1 v1) <|
  .load [(v1, false)] (g vs 2) 1 fun l2 =>
  .chk (.eqV v1 v1) <|
  .chk (.eqV v1 v1) <|
  .pure [] (.bin .eql .int) [(g vs 1), (g l2 0)] fun v3 =>
  .chk (.eqV v1 v1) <|
  .pure [] .pick [v1, (.bool true), v3] fun v4 =>
  .ret v4 []
theorem T_board_out_3_eq (vs : List Value) : sxFun PP Tryd.f66 (mkOpts okL [(28, [5, 6, 7, 8])] [] []) vs = T_board_out_3 vs := by kernel_rfl
theorem run_board_out_3 {args vs : List Value} (ha : entryArgs PP Tryd.f66 args = some vs) (ho : Ones vs) {H : Heap} {O : Own} {Q : Value → Heap → Own → Prop} (h : (T_board_out_3 vs).den PP Q H O) : Triple PP F_board_out_3 args H O Q :=
  triple_run mixed (mkOpts_ok okL_ok _ _ _) Tryd.func66 T_board_out_3_eq ha ho h

abbrev F_ident_Ids_check : FuncId := 67
/- (*zeitnot/ident.Ids).check -/
def T_ident_Ids_check (vs : List Value) : Tree :=
  .call false 68 [(g vs 0)] [] [] .one fun l0 _ =>
  .br (g l0 0) (
    .ret (.tuple #[(.pointer none), (.int .u64 0), (.int .i64 1)]) []) (
    .pure [] (.bin .lss .int) [(g vs 1), (.int .i64 1)] fun v1 =>
    .chk (.ptr [(v1, false)] (g vs 0)) <|
    .chk (.eqV v1 v1) <|
    .chk (.ptr [(v1, false)] (g vs 0)) <|
    .chk (.eqV v1 v1) <|
    .chk (.eqV v1 v1) <|
    .load [(v1, false)] (g vs 0) 1 fun l2 =>
    .chk (.eqV v1 v1) <|
    .chk (.eqV v1 v1) <|
    .pure [] (.bin .gtr .int) [(g vs 1), (g l2 0)] fun v3 =>
    .chk (.eqV v1 v1) <|
    .pure [] .pick [v1, (.bool true), v3] fun v4 =>
    .br v4 (
      .ret (.tuple #[(.pointer none), (.int .u64 0), (.int .i64 2)]) []) (
      .call false 90 [(g vs 0), (g vs 1)] [] [] (.tup [none, none]) fun l5 _ =>
      .ret (.tuple #[(g l5 0), (g l5 1), (.int .i64 0)]) []))
theorem T_ident_Ids_check_eq (vs : List Value) : sxFun PP Tryd.f67 (mkOpts okL [(28, [5, 6, 7, 8])] [] []) vs = T_ident_Ids_check vs := by kernel_rfl
theorem run_ident_Ids_check {args vs : List Value} (ha : entryArgs PP Tryd.f67 args = some vs) (ho : Ones vs) {H : Heap} {O : Own} {Q : Value → Heap → Own → Prop} (h : (T_ident_Ids_check vs).den PP Q H O) : Triple PP F_ident_Ids_check args H O Q :=
  triple_run mixed (mkOpts_ok okL_ok _ _ _) Tryd.func67 T_ident_Ids_check_eq ha ho h

abbrev F_ident_Ids_zero : FuncId := 68
/- (*zeitnot/ident.Ids).zero -/
def T_ident_Ids_zero (vs : List Value) : Tree :=
  .pure [] (.bin .eql .ptr) [(g vs 0), (.pointer none)] fun v0 =>
  .chk (.ptr [(v0, false)] (g vs 0)) <|
  .chk (.eqV v0 v0) <|
  .chk (.ptr [(v0, false)] (g vs 0)) <|
  .chk (.eqV v0 v0) <|
  .chk (.eqV v0 v0) <|
  .load [(v0, false)] (g vs 0) 1 fun l1 =>
  .chk (.eqV v0 v0) <|
  .pure [] (.bin .eql .int) [(g l1 0), (.int .i64 0)] fun v2 =>
  .chk (.eqV v0 v0) <|
  .pure [] .pick [v0, (.bool true), v2] fun v3 =>
  .ret v3 []
theorem T_ident_Ids_zero_eq (vs : List Value) : sxFun PP Tryd.f68 (mkOpts okL [(28, [5, 6, 7, 8])] [] []) vs = T_ident_Ids_zero vs := by kernel_rfl
theorem run_ident_Ids_zero {args vs : List Value} (ha : entryArgs PP Tryd.f68 args = some vs) (ho : Ones vs) {H : Heap} {O : Own} {Q : Value → Heap → Own → Prop} (h : (T_ident_Ids_zero vs).den PP Q H O) : Triple PP F_ident_Ids_zero args H O Q :=
  triple_run mixed (mkOpts_ok okL_ok _ _ _) Tryd.func68 T_ident_Ids_zero_eq ha ho h

abbrev F_math_bits_TrailingZeros64 : FuncId := 69
/- math/bits.TrailingZeros64 -/
def T_math_bits_TrailingZeros64 (vs : List Value) : Tree :=
  .pure [] (.bin .eql .int) [(g vs 0), (.int .u64 0)] fun v0 =>
  .br v0 (
    .ret (.int .i64 64) []) (
    .pure [] .neg [(g vs 0)] fun v1 =>
    .pure [] (.bin .and .int) [(g vs 0), v1] fun v2 =>
    .pure [] (.bin .mul .int) [v2, (.int .u64 285870213051353865)] fun v3 =>
    .pure [] (.bin .shr .int) [v3, (.int .u64 58)] fun v4 =>
    .pure [] (.pidx 64 1) [(.pointer (some ⟨0, 0, none⟩)), v4] fun v5 =>
    .load [] v5 1 fun l6 =>
    .pure [] (.conv .i64) [(g l6 0)] fun v7 =>
    .ret v7 [])
theorem T_math_bits_TrailingZeros64_eq (vs : List Value) : sxFun PP Tryd.f69 (mkOpts okL [(28, [5, 6, 7, 8])] [] []) vs = T_math_bits_TrailingZeros64 vs := by kernel_rfl
theorem run_math_bits_TrailingZeros64 {args vs : List Value} (ha : entryArgs PP Tryd.f69 args = some vs) (ho : Ones vs) {H : Heap} {O : Own} {Q : Value → Heap → Own → Prop} (h : (T_math_bits_TrailingZeros64 vs).den PP Q H O) : Triple PP F_math_bits_TrailingZeros64 args H O Q :=
  triple_run mixed (mkOpts_ok okL_ok _ _ _) Tryd.func69 T_math_bits_TrailingZeros64_eq ha ho h

abbrev F_object_plus : FuncId := 70
/- zeitnot/object.plus -/
def T_object_plus (vs : List Value) : Tree :=
  .pure [] .max2 [(.int .i64 0), (g vs 0)] fun v0 =>
  .pure [] .max2 [(.int .i64 0), (g vs 1)] fun v1 =>
  .call false 91 [v0, v1, (.int .i64 99)] [] [] .one fun l2 _ =>
  .ret (g l2 0) []
theorem T_object_plus_eq (vs : List Value) : sxFun PP Tryd.f70 (mkOpts okL [(28, [5, 6, 7, 8])] [] []) vs = T_object_plus vs := by kernel_rfl
theorem run_object_plus {args vs : List Value} (ha : entryArgs PP Tryd.f70 args = some vs) (ho : Ones vs) {H : Heap} {O : Own} {Q : Value → Heap → Own → Prop} (h : (T_object_plus vs).den PP Q H O) : Triple PP F_object_plus args H O Q :=
  triple_run mixed (mkOpts_ok okL_ok _ _ _) Tryd.func70 T_object_plus_eq ha ho h

abbrev F_slices_overlaps_api_Object : FuncId := 71
/- slices.overlaps[zeitnot/api.Object]: no text -/

abbrev F_slices_rotateRight_api_Object : FuncId := 72
/- slices.rotateRight[zeitnot/api.Object] -/
def T_slices_rotateRight_api_Object (vs : List Value) : Tree :=
  .pure [] .len [(g vs 0)] fun v0 =>
  .pure [] (.bin .sub .int) [v0, (g vs 1)] fun v1 =>
  .call false 92 [(g vs 0), v1] [] [] (.tup []) fun l2 _ =>
  .ret (.tuple #[]) []
theorem T_slices_rotateRight_api_Object_eq (vs : List Value) : sxFun PP Tryd.f72 (mkOpts okL [(28, [5, 6, 7, 8])] [] []) vs = T_slices_rotateRight_api_Object vs := by kernel_rfl
theorem run_slices_rotateRight_api_Object {args vs : List Value} (ha : entryArgs PP Tryd.f72 args = some vs) (ho : Ones vs) {H : Heap} {O : Own} {Q : Value → Heap → Own → Prop} (h : (T_slices_rotateRight_api_Object vs).den PP Q H O) : Triple PP F_slices_rotateRight_api_Object args H O Q :=
  triple_run mixed (mkOpts_ok okL_ok _ _ _) Tryd.func72 T_slices_rotateRight_api_Object_eq ha ho h

abbrev F_object_look : FuncId := 73
/- zeitnot/object.look -/
def T_object_look (vs : List Value) : Tree :=
  .newbox fun r0 =>
  .newbox fun r1 =>
  .chk (.eqN r0 r0) <|
  .pure [] (.bin .lss .int) [(g vs 2), (.int .i64 0)] fun v0 =>
  .chk (.eqN r0 r0) <|
  .chk (.eqV v0 v0) <|
  .chk (.eqV v0 v0) <|
  .pure [] .len [(g vs 0)] fun v1 =>
  .chk (.eqV v0 v0) <|
  .chk (.eqV v0 v0) <|
  .pure [] (.bin .geq .int) [(g vs 2), v1] fun v2 =>
  .chk (.eqV v0 v0) <|
  .pure [] .pick [v0, (.bool true), v2] fun v3 =>
  .br v3 (
    .chk (.eqN r1 r1) <|
    .chk (.eqN r1 r1) <|
    .ret (.agg #[(.string ⟨#[]⟩), (.int .i64 0), (.int .i64 0), (.int .i64 0), (.int .i64 0), (.int .i64 0), (.int .i64 0), (.int .i64 0), (.int .i64 0), (.int .i64 0), (.int .i64 0), (.slice none 0 0), (.slice none 0 0), (.int .i64 0)]) []) (
    .chk (.eqN r0 r0) <|
    .pure [] (.idx 14) [(g vs 0), (g vs 2)] fun v4 =>
    .load [] v4 14 fun l5 =>
    .chk (.eqN r1 r1) <|
    .chk (.eqN r1 r1) <|
    .ret (.agg #[(g l5 0), (g l5 1), (g l5 2), (g l5 3), (g l5 4), (g l5 5), (g l5 6), (g l5 7), (g l5 8), (g l5 9), (g l5 10), (g l5 11), (g l5 12), (g l5 13)]) [])
theorem T_object_look_eq (vs : List Value) : sxFun PP Tryd.f73 (mkOpts okL [(28, [5, 6, 7, 8])] [] []) vs = T_object_look vs := by kernel_rfl
theorem run_object_look {args vs : List Value} (ha : entryArgs PP Tryd.f73 args = some vs) (ho : Ones vs) {H : Heap} {O : Own} {Q : Value → Heap → Own → Prop} (h : (T_object_look vs).den PP Q H O) : Triple PP F_object_look args H O Q :=
  triple_run mixed (mkOpts_ok okL_ok _ _ _) Tryd.func73 T_object_look_eq ha ho h

abbrev F_slices_Equal_api_Target_api_Target : FuncId := 74
/- slices.Equal[[]zeitnot/api.Target,zeitnot/api.Target] -/
def T_slices_Equal_api_Target_api_Target (vs : List Value) : Tree :=
  .pure [] .len [(g vs 0)] fun v0 =>
  .pure [] .len [(g vs 1)] fun v1 =>
  .pure [] (.bin .neq .int) [v0, v1] fun v2 =>
  .br v2 (
    .ret (.bool false) []) (
    .pure [] .len [(g vs 0)] fun v3 =>
    .loop 9 4 [(.int .i64 0)] fun C9 l4 =>
      .pure [] (.bin .lss .int) [(g l4 0), v3] fun v5 =>
      .br v5 (
        .pure [] (.idx 2) [(g vs 0), (g l4 0)] fun v6 =>
        .load [] v6 2 fun l7 =>
        .pure [] (.idx 2) [(g vs 1), (g l4 0)] fun v8 =>
        .load [] v8 2 fun l9 =>
        .raw [] (.eqv .neq 139 false) [(.agg #[(g l7 0), (g l7 1)]), (.agg #[(g l9 0), (g l9 1)])] fun v10 =>
        .br v10 (
          .ret (.bool false) []) (
          .pure [] (.bin .add .int) [(g l4 0), (.int .i64 1)] fun v11 =>
          .cont 9 C9 [v11] [E [(g vs 0)], E [(g vs 1)], E [v3]])) (
        .ret (.bool true) []))
theorem T_slices_Equal_api_Target_api_Target_eq (vs : List Value) : sxFun PP Tryd.f74 (mkOpts okL [(28, [5, 6, 7, 8])] [(4, .inv [13] [0, 1, 12] [])] []) vs = T_slices_Equal_api_Target_api_Target vs := by kernel_rfl
theorem run_slices_Equal_api_Target_api_Target {args vs : List Value} (ha : entryArgs PP Tryd.f74 args = some vs) (ho : Ones vs) {H : Heap} {O : Own} {Q : Value → Heap → Own → Prop} (h : (T_slices_Equal_api_Target_api_Target vs).den PP Q H O) : Triple PP F_slices_Equal_api_Target_api_Target args H O Q :=
  triple_run mixed (mkOpts_ok okL_ok _ _ _) Tryd.func74 T_slices_Equal_api_Target_api_Target_eq ha ho h

abbrev F_board_writer_two : FuncId := 75
/- (*zeitnot/board.writer).two -/
def T_board_writer_two (vs : List Value) : Tree :=
  .pure [] .len [(g vs 1)] fun v0 =>
  .loop 3 1 [(.int .i64 0)] fun C3 l1 =>
    .pure [] (.bin .lss .int) [(g l1 0), v0] fun v2 =>
    .br v2 (
      .pure [] (.idx 1) [(g vs 1), (g l1 0)] fun v3 =>
      .load [] v3 1 fun l4 =>
      .pure [] (.bin .shr .int) [(g l4 0), (.int .u64 8)] fun v5 =>
      .newbox fun r0 =>
      .call false 77 [(g vs 0), (.slice (some ⟨r0, 0, none⟩) 2 2)] [⟨r0, 3, [v5, (g l4 0)]⟩] [] (.tup []) fun l6 _ =>
      .pure [] (.bin .add .int) [(g l1 0), (.int .i64 1)] fun v7 =>
      .cont 3 C3 [v7] [E [(g vs 0)], E [(g vs 1)], E [v0]]) (
      .ret (.tuple #[]) [])
theorem T_board_writer_two_eq (vs : List Value) : sxFun PP Tryd.f75 (mkOpts okL [(28, [5, 6, 7, 8])] [(1, .inv [8] [0, 6, 7] [])] []) vs = T_board_writer_two vs := by kernel_rfl
theorem run_board_writer_two {args vs : List Value} (ha : entryArgs PP Tryd.f75 args = some vs) (ho : Ones vs) {H : Heap} {O : Own} {Q : Value → Heap → Own → Prop} (h : (T_board_writer_two vs).den PP Q H O) : Triple PP F_board_writer_two args H O Q :=
  triple_run mixed (mkOpts_ok okL_ok _ _ _) Tryd.func75 T_board_writer_two_eq ha ho h

abbrev F_object_Encode : FuncId := 76
/- zeitnot/object.Encode -/
def T_object_Encode (vs : List Value) : Tree :=
  .newbox fun r0 =>
  .chk (.eqN r0 r0) <|
  .call false 36 [(.agg #[(g vs 0), (g vs 1), (g vs 2), (g vs 3), (g vs 4), (g vs 5), (g vs 6), (g vs 7), (g vs 8), (g vs 9), (g vs 10), (g vs 11)])] [] [] .one fun l0 _ =>
  .pure [] .not [(g l0 0)] fun v1 =>
  .br v1 (
    .ret (.tuple #[(.slice none 0 0), (.int .i64 2)]) []) (
    .prim (.makeMap 161 false) [] [] [] .one fun l2 _ =>
    .chk (.eqN r0 r0) <|
    .prim (.mapUpdate 161) [(g l2 0), (.int .u8 1), (g vs 9)] [] [] .one fun l3 _ =>
    .chk (.eqN r0 r0) <|
    .prim (.mapUpdate 161) [(g l2 0), (.int .u8 2), (g vs 10)] [] [] .one fun l4 _ =>
    .chk (.eqN r0 r0) <|
    .prim (.mapUpdate 161) [(g l2 0), (.int .u8 4), (g vs 11)] [] [] .one fun l5 _ =>
    .prim (.range 161) [(g l2 0)] [] [] .one fun l6 _ =>
    .loop 19 5 [(.int .u8 0)] fun C19 l7 =>
      .prim (.next false 0) [(g l6 0)] [] [] (.tup [none, none, none]) fun l8 _ =>
      .br (g l8 0) (
        .prim .entry [(g l6 0)] [] [] (.tup [none, none]) fun l9 _ =>
        .br (g l9 1) (
          .pure [] (.bin .or .int) [(g l7 0), (g l9 0)] fun v10 =>
          .cont 19 C19 [v10] [E [(.pointer (some ⟨r0, 0, none⟩))], E [(g l6 0)], E [(.pointer (some ⟨r0, 0, none⟩)), (g vs 0), (g vs 1), (g vs 2), (g vs 3), (g vs 4), (g vs 5), (g vs 6), (g vs 7), (g vs 8), (g vs 9), (g vs 10), (g vs 11)]]) (
          .cont 19 C19 [(g l7 0)] [E [(.pointer (some ⟨r0, 0, none⟩))], E [(g l6 0)], E [(.pointer (some ⟨r0, 0, none⟩)), (g vs 0), (g vs 1), (g vs 2), (g vs 3), (g vs 4), (g vs 5), (g vs 6), (g vs 7), (g vs 8), (g vs 9), (g vs 10), (g vs 11)]])) (
        .chk (.eqN r0 r0) <|
        .pure [] (.bin .add .int) [(g vs 1), (.int .i64 1)] fun v11 =>
        .chk (.eqN r0 r0) <|
        .pure [] (.bin .shr .int) [(g vs 0), (.int .u64 8)] fun v12 =>
        .pure [] (.conv .u8) [v12] fun v13 =>
        .chk (.eqN r0 r0) <|
        .pure [] (.conv .u8) [(g vs 0)] fun v14 =>
        .pure [] (.bin .shr .int) [v11, (.int .u64 8)] fun v15 =>
        .pure [] (.conv .u8) [v15] fun v16 =>
        .pure [] (.conv .u8) [v11] fun v17 =>
        .chk (.eqN r0 r0) <|
        .pure [] (.conv .u8) [(g vs 2)] fun v18 =>
        .chk (.eqN r0 r0) <|
        .pure [] (.conv .u8) [(g vs 3)] fun v19 =>
        .chk (.eqN r0 r0) <|
        .pure [] (.conv .u8) [(g vs 4)] fun v20 =>
        .chk (.eqN r0 r0) <|
        .pure [] (.conv .u8) [(g vs 5)] fun v21 =>
        .chk (.eqN r0 r0) <|
        .pure [] (.conv .u8) [(g vs 6)] fun v22 =>
        .chk (.eqN r0 r0) <|
        .pure [] (.conv .u8) [(g vs 7)] fun v23 =>
        .chk (.eqN r0 r0) <|
        .pure [] (.conv .u8) [(g vs 8)] fun v24 =>
        .newbox fun r1 =>
        .ret (.tuple #[(.slice (some ⟨r1, 0, none⟩) 12 12), (.int .i64 0)]) [⟨r1, 5, [v13, v14, v16, v17, v18, v19, v20, v21, v22, v23, v24, (g l7 0)]⟩]))
theorem T_object_Encode_eq (vs : List Value) : sxFun PP Tryd.f76 (mkOpts okL [(28, [5, 6, 7, 8])] [(5, .inv [4] [1, 19] [(1, [])])] []) vs = T_object_Encode vs := by kernel_rfl
theorem run_object_Encode {args vs : List Value} (ha : entryArgs PP Tryd.f76 args = some vs) (ho : Ones vs) {H : Heap} {O : Own} {Q : Value → Heap → Own → Prop} (h : (T_object_Encode vs).den PP Q H O) : Triple PP F_object_Encode args H O Q :=
  triple_run mixed (mkOpts_ok okL_ok _ _ _) Tryd.func76 T_object_Encode_eq ha ho h

abbrev F_board_writer_one : FuncId := 77
/- (*zeitnot/board.writer).one -/
def T_board_writer_one (vs : List Value) : Tree :=
  .pure [] .len [(g vs 1)] fun v0 =>
  .loop 3 1 [(.int .i64 0)] fun C3 l1 =>
    .pure [] (.bin .lss .int) [(g l1 0), v0] fun v2 =>
    .br v2 (
      .pure [] (.idx 1) [(g vs 1), (g l1 0)] fun v3 =>
      .load [] v3 1 fun l4 =>
      .chk (.ptr [] (g vs 0)) <|
      .load [] (g vs 0) 1 fun l5 =>
      .pure [] (.conv .u8) [(g l4 0)] fun v6 =>
      .newbox fun r0 =>
      .prim (.bi .append #[141, 141] 141) [(g l5 0), (.slice (some ⟨r0, 0, none⟩) 1 1)] [⟨r0, 5, [v6]⟩] [] .one fun l7 _ =>
      .chk (.ptr [] (g vs 0)) <|
      .chk (.ptr [] (g vs 0)) <|
      .store (g vs 0) [(g l7 0)] <|
      .pure [] (.bin .add .int) [(g l1 0), (.int .i64 1)] fun v8 =>
      .cont 3 C3 [v8] [E [(g vs 0)], E [(g vs 1)], E [v0]]) (
      .ret (.tuple #[]) [])
theorem T_board_writer_one_eq (vs : List Value) : sxFun PP Tryd.f77 (mkOpts okL [(28, [5, 6, 7, 8])] [(1, .inv [8] [0, 6, 7] [])] []) vs = T_board_writer_one vs := by kernel_rfl
theorem run_board_writer_one {args vs : List Value} (ha : entryArgs PP Tryd.f77 args = some vs) (ho : Ones vs) {H : Heap} {O : Own} {Q : Value → Heap → Own → Prop} (h : (T_board_writer_one vs).den PP Q H O) : Triple PP F_board_writer_one args H O Q :=
  triple_run mixed (mkOpts_ok okL_ok _ _ _) Tryd.func77 T_board_writer_one_eq ha ho h

abbrev F_board_bit : FuncId := 78
/- zeitnot/board.bit -/
def T_board_bit (vs : List Value) : Tree :=
  .br (g vs 0) (
    .ret (g vs 1) []) (
    .ret (.int .i64 0) [])
theorem T_board_bit_eq (vs : List Value) : sxFun PP Tryd.f78 (mkOpts okL [(28, [5, 6, 7, 8])] [] []) vs = T_board_bit vs := by kernel_rfl
theorem run_board_bit {args vs : List Value} (ha : entryArgs PP Tryd.f78 args = some vs) (ho : Ones vs) {H : Heap} {O : Own} {Q : Value → Heap → Own → Prop} (h : (T_board_bit vs).den PP Q H O) : Triple PP F_board_bit args H O Q :=
  triple_run mixed (mkOpts_ok okL_ok _ _ _) Tryd.func78 T_board_bit_eq ha ho h

abbrev F_board_writer_ids : FuncId := 79
/- (*zeitnot/board.writer).ids -/
def T_board_writer_ids (vs : List Value) : Tree :=
  .pure [] .len [(g vs 1)] fun v0 =>
  .newbox fun r0 =>
  .call false 75 [(g vs 0), (.slice (some ⟨r0, 0, none⟩) 1 1)] [⟨r0, 3, [v0]⟩] [] (.tup []) fun l1 _ =>
  .call false 75 [(g vs 0), (g vs 1)] [] [] (.tup []) fun l2 _ =>
  .ret (.tuple #[]) []
theorem T_board_writer_ids_eq (vs : List Value) : sxFun PP Tryd.f79 (mkOpts okL [(28, [5, 6, 7, 8])] [] []) vs = T_board_writer_ids vs := by kernel_rfl
theorem run_board_writer_ids {args vs : List Value} (ha : entryArgs PP Tryd.f79 args = some vs) (ho : Ones vs) {H : Heap} {O : Own} {Q : Value → Heap → Own → Prop} (h : (T_board_writer_ids vs).den PP Q H O) : Triple PP F_board_writer_ids args H O Q :=
  triple_run mixed (mkOpts_ok okL_ok _ _ _) Tryd.func79 T_board_writer_ids_eq ha ho h

abbrev F_board_writer_items : FuncId := 80
/- (*zeitnot/board.writer).items -/
def T_board_writer_items (vs : List Value) : Tree :=
  .pure [] .len [(g vs 1)] fun v0 =>
  .newbox fun r0 =>
  .call false 77 [(g vs 0), (.slice (some ⟨r0, 0, none⟩) 1 1)] [⟨r0, 3, [v0]⟩] [] (.tup []) fun l1 _ =>
  .pure [] .len [(g vs 1)] fun v2 =>
  .loop 8 2 [(.int .i64 0)] fun C8 l3 =>
    .pure [] (.bin .lss .int) [(g l3 0), v2] fun v4 =>
    .br v4 (
      .pure [] (.idx 5) [(g vs 1), (g l3 0)] fun v5 =>
      .load [] v5 5 fun l6 =>
      .newbox fun r1 =>
      .chk (.eqN r1 r1) <|
      .chk (.eqN r1 r1) <|
      .newbox fun r2 =>
      .call false 77 [(g vs 0), (.slice (some ⟨r2, 0, none⟩) 1 1)] [⟨r2, 3, [(g l6 0)]⟩] [] (.tup []) fun l7 _ =>
      .chk (.eqN r1 r1) <|
      .chk (.eqN r1 r1) <|
      .newbox fun r3 =>
      .call false 75 [(g vs 0), (.slice (some ⟨r3, 0, none⟩) 2 2)] [⟨r3, 3, [(g l6 1), (g l6 2)]⟩] [] (.tup []) fun l8 _ =>
      .chk (.eqN r1 r1) <|
      .pure [] (.bin .add .int) [(g l6 3), (.int .i64 1)] fun v9 =>
      .chk (.eqN r1 r1) <|
      .pure [] .len [(g l6 4)] fun v10 =>
      .newbox fun r4 =>
      .call false 77 [(g vs 0), (.slice (some ⟨r4, 0, none⟩) 2 2)] [⟨r4, 3, [v9, v10]⟩] [] (.tup []) fun l11 _ =>
      .chk (.eqN r1 r1) <|
      .pure [] .len [(g l6 4)] fun v12 =>
      .loop 39 8 [(.int .i64 0)] fun C39 l13 =>
        .pure [] (.bin .lss .int) [(g l13 0), v12] fun v14 =>
        .br v14 (
          .pure [] (.idx 2) [(g l6 4), (g l13 0)] fun v15 =>
          .load [] v15 2 fun l16 =>
          .newbox fun r5 =>
          .chk (.eqN r5 r5) <|
          .chk (.eqN r5 r5) <|
          .newbox fun r6 =>
          .call false 75 [(g vs 0), (.slice (some ⟨r6, 0, none⟩) 1 1)] [⟨r6, 3, [(g l16 0)]⟩] [] (.tup []) fun l17 _ =>
          .chk (.eqN r5 r5) <|
          .newbox fun r7 =>
          .call false 77 [(g vs 0), (.slice (some ⟨r7, 0, none⟩) 1 1)] [⟨r7, 3, [(g l16 1)]⟩] [] (.tup []) fun l18 _ =>
          .pure [] (.bin .add .int) [(g l13 0), (.int .i64 1)] fun v19 =>
          .cont 39 C39 [v19] [E [(g vs 0)], E [(g vs 1)], E [v2], E [(g l3 0)], E [(g l6 4)], E [v12]]) (
          .pure [] (.bin .add .int) [(g l3 0), (.int .i64 1)] fun v20 =>
          .cont 8 C8 [v20] [E [(g vs 0)], E [(g vs 1)], E [v2]])) (
      .ret (.tuple #[]) [])
theorem T_board_writer_items_eq (vs : List Value) : sxFun PP Tryd.f80 (mkOpts okL [(28, [5, 6, 7, 8])] [(2, .inv [15] [0, 13, 14] []), (8, .inv [43] [0, 13, 14, 15, 41, 42] [])] []) vs = T_board_writer_items vs := by kernel_rfl
theorem run_board_writer_items {args vs : List Value} (ha : entryArgs PP Tryd.f80 args = some vs) (ho : Ones vs) {H : Heap} {O : Own} {Q : Value → Heap → Own → Prop} (h : (T_board_writer_items vs).den PP Q H O) : Triple PP F_board_writer_items args H O Q :=
  triple_run mixed (mkOpts_ok okL_ok _ _ _) Tryd.func80 T_board_writer_items_eq ha ho h

abbrev F_mana_within : FuncId := 81
/- zeitnot/mana.within -/
def T_mana_within (vs : List Value) : Tree :=
  .newbox fun r0 =>
  .chk (.eqN r0 r0) <|
  .loop 4 2 [(.int .i64 0)] fun C4 l0 =>
    .pure [] (.bin .lss .int) [(g l0 0), (.int .i64 4)] fun v1 =>
    .br v1 (
      .pure [] .aidx [(g l0 0), (g vs 0), (g vs 1), (g vs 2), (g vs 3)] fun v2 =>
      .pure [] (.bin .lss .int) [v2, (.int .i64 0)] fun v3 =>
      .chk (.eqV v3 v3) <|
      .chk (.eqV v3 v3) <|
      .pure [] (.bin .gtr .int) [v2, (g vs 4)] fun v4 =>
      .chk (.eqV v3 v3) <|
      .pure [] .pick [v3, (.bool true), v4] fun v5 =>
      .br v5 (
        .ret (.bool false) []) (
        .pure [] (.bin .add .int) [(g l0 0), (.int .i64 1)] fun v6 =>
        .cont 4 C4 [v6] [E [(g vs 4)], E [(g vs 0), (g vs 1), (g vs 2), (g vs 3)]])) (
      .ret (.bool true) [])
theorem T_mana_within_eq (vs : List Value) : sxFun PP Tryd.f81 (mkOpts okL [(28, [5, 6, 7, 8])] [(2, .inv [8] [1, 7] [])] []) vs = T_mana_within vs := by kernel_rfl
theorem run_mana_within {args vs : List Value} (ha : entryArgs PP Tryd.f81 args = some vs) (ho : Ones vs) {H : Heap} {O : Own} {Q : Value → Heap → Own → Prop} (h : (T_mana_within vs).den PP Q H O) : Triple PP F_mana_within args H O Q :=
  triple_run mixed (mkOpts_ok okL_ok _ _ _) Tryd.func81 T_mana_within_eq ha ho h

abbrev F_slices_ContainsFunc_api_Target_api_Target : FuncId := 82
/- slices.ContainsFunc[[]zeitnot/api.Target,zeitnot/api.Target] -/
def T_slices_ContainsFunc_api_Target_api_Target (vs : List Value) : Tree :=
  .call false 93 [(g vs 0), (g vs 1)] [] [] .one fun l0 _ =>
  .pure [] (.bin .geq .int) [(g l0 0), (.int .i64 0)] fun v1 =>
  .ret v1 []
theorem T_slices_ContainsFunc_api_Target_api_Target_eq (vs : List Value) : sxFun PP Tryd.f82 (mkOpts okL [(28, [5, 6, 7, 8])] [] []) vs = T_slices_ContainsFunc_api_Target_api_Target vs := by kernel_rfl
theorem run_slices_ContainsFunc_api_Target_api_Target {args vs : List Value} (ha : entryArgs PP Tryd.f82 args = some vs) (ho : Ones vs) {H : Heap} {O : Own} {Q : Value → Heap → Own → Prop} (h : (T_slices_ContainsFunc_api_Target_api_Target vs).den PP Q H O) : Triple PP F_slices_ContainsFunc_api_Target_api_Target args H O Q :=
  triple_run mixed (mkOpts_ok okL_ok _ _ _) Tryd.func82 T_slices_ContainsFunc_api_Target_api_Target_eq ha ho h

abbrev F_board_fine_1 : FuncId := 83
/- zeitnot/board.fine$1 -/
def T_board_fine_1 (vs : List Value) : Tree :=
  .newbox fun r0 =>
  .chk (.eqN r0 r0) <|
  .call false 84 [(.agg #[(g vs 0), (g vs 1)])] [] [] .one fun l0 _ =>
  .pure [] .not [(g l0 0)] fun v1 =>
  .ret v1 []
theorem T_board_fine_1_eq (vs : List Value) : sxFun PP Tryd.f83 (mkOpts okL [(28, [5, 6, 7, 8])] [] []) vs = T_board_fine_1 vs := by kernel_rfl
theorem run_board_fine_1 {args vs : List Value} (ha : entryArgs PP Tryd.f83 args = some vs) (ho : Ones vs) {H : Heap} {O : Own} {Q : Value → Heap → Own → Prop} (h : (T_board_fine_1 vs).den PP Q H O) : Triple PP F_board_fine_1 args H O Q :=
  triple_run mixed (mkOpts_ok okL_ok _ _ _) Tryd.func83 T_board_fine_1_eq ha ho h

abbrev F_board_aimed : FuncId := 84
/- zeitnot/board.aimed -/
def T_board_aimed (vs : List Value) : Tree :=
  .newbox fun r0 =>
  .chk (.eqN r0 r0) <|
  .call false 18 [(g vs 0), (.int .i64 0), (.int .i64 500)] [] [] .one fun l0 _ =>
  .br (g l0 0) (
    .chk (.eqN r0 r0) <|
    .call false 18 [(g vs 1), (.int .i64 0), (.int .i64 1)] [] [] .one fun l1 _ =>
    .chk (.eqN r0 r0) <|
    .chk (.eqV (g l1 0) (g l1 0)) <|
    .chk (.eqV (g l1 0) (g l1 0)) <|
    .pure [] (.bin .eql .int) [(g vs 0), (.int .i64 0)] fun v2 =>
    .chk (.eqV (g l1 0) (g l1 0)) <|
    .chk (.eqN r0 r0) <|
    .chk (.eqV v2 v2) <|
    .chk (.eqV (g l1 0) (g l1 0)) <|
    .chk (.eqV v2 v2) <|
    .chk (.eqV (g l1 0) (g l1 0)) <|
    .pure [] (.bin .eql .int) [(g vs 1), (.int .i64 0)] fun v3 =>
    .chk (.eqV (g l1 0) (g l1 0)) <|
    .chk (.eqV v2 v2) <|
    .chk (.eqV (g l1 0) (g l1 0)) <|
    .pure [] .pick [v2, (.bool true), v3] fun v4 =>
    .chk (.eqV (g l1 0) (g l1 0)) <|
    .pure [] .pick [(g l1 0), v4, (.bool false)] fun v5 =>
    .ret v5 []) (
    .ret (.bool false) [])
theorem T_board_aimed_eq (vs : List Value) : sxFun PP Tryd.f84 (mkOpts okL [(28, [5, 6, 7, 8])] [] []) vs = T_board_aimed vs := by kernel_rfl
theorem run_board_aimed {args vs : List Value} (ha : entryArgs PP Tryd.f84 args = some vs) (ho : Ones vs) {H : Heap} {O : Own} {Q : Value → Heap → Own → Prop} (h : (T_board_aimed vs).den PP Q H O) : Triple PP F_board_aimed args H O Q :=
  triple_run mixed (mkOpts_ok okL_ok _ _ _) Tryd.func84 T_board_aimed_eq ha ho h

abbrev F_board_placed_1 : FuncId := 85
/- zeitnot/board.placed$1 -/
def T_board_placed_1 (vs : List Value) : Tree :=
  .load [] (g vs 2) 1 fun l0 =>
  .prim (.lookup 151 true) [(g l0 0), (g vs 0)] [] [] (.tup [none, none]) fun l1 _ =>
  .load [] (g vs 2) 1 fun l2 =>
  .prim (.mapUpdate 151) [(g l2 0), (g vs 0), (g vs 1)] [] [] .one fun l3 _ =>
  .pure [] .not [(g l1 1)] fun v4 =>
  .ret v4 []
theorem T_board_placed_1_eq (vs : List Value) : sxFun PP Tryd.f85 (mkOpts okL [(28, [5, 6, 7, 8])] [] []) vs = T_board_placed_1 vs := by kernel_rfl
theorem run_board_placed_1 {args vs : List Value} (ha : entryArgs PP Tryd.f85 args = some vs) (ho : Ones vs) {H : Heap} {O : Own} {Q : Value → Heap → Own → Prop} (h : (T_board_placed_1 vs).den PP Q H O) : Triple PP F_board_placed_1 args H O Q :=
  triple_run mixed (mkOpts_ok okL_ok _ _ _) Tryd.func85 T_board_placed_1_eq ha ho h

abbrev F_slices_Clone_api_Item_api_Item : FuncId := 86
/- slices.Clone[[]zeitnot/api.Item,zeitnot/api.Item] -/
def T_slices_Clone_api_Item_api_Item (vs : List Value) : Tree :=
  .pure [] (.bin .eql .slice) [(g vs 0), (.slice none 0 0)] fun v0 =>
  .br v0 (
    .ret (.slice none 0 0) []) (
    .newbox fun r0 =>
    .prim (.bi .append #[30, 30] 30) [(.slice (some ⟨r0, 0, none⟩) 0 0), (g vs 0)] [⟨r0, 93, []⟩] [] .one fun l1 _ =>
    .ret (g l1 0) [])
theorem T_slices_Clone_api_Item_api_Item_eq (vs : List Value) : sxFun PP Tryd.f86 (mkOpts okL [(28, [5, 6, 7, 8])] [] []) vs = T_slices_Clone_api_Item_api_Item vs := by kernel_rfl
theorem run_slices_Clone_api_Item_api_Item {args vs : List Value} (ha : entryArgs PP Tryd.f86 args = some vs) (ho : Ones vs) {H : Heap} {O : Own} {Q : Value → Heap → Own → Prop} (h : (T_slices_Clone_api_Item_api_Item vs).den PP Q H O) : Triple PP F_slices_Clone_api_Item_api_Item args H O Q :=
  triple_run mixed (mkOpts_ok okL_ok _ _ _) Tryd.func86 T_slices_Clone_api_Item_api_Item_eq ha ho h

abbrev F_slices_Clone_api_Target_api_Target : FuncId := 87
/- slices.Clone[[]zeitnot/api.Target,zeitnot/api.Target] -/
def T_slices_Clone_api_Target_api_Target (vs : List Value) : Tree :=
  .pure [] (.bin .eql .slice) [(g vs 0), (.slice none 0 0)] fun v0 =>
  .br v0 (
    .ret (.slice none 0 0) []) (
    .newbox fun r0 =>
    .prim (.bi .append #[91, 91] 91) [(.slice (some ⟨r0, 0, none⟩) 0 0), (g vs 0)] [⟨r0, 139, []⟩] [] .one fun l1 _ =>
    .ret (g l1 0) [])
theorem T_slices_Clone_api_Target_api_Target_eq (vs : List Value) : sxFun PP Tryd.f87 (mkOpts okL [(28, [5, 6, 7, 8])] [] []) vs = T_slices_Clone_api_Target_api_Target vs := by kernel_rfl
theorem run_slices_Clone_api_Target_api_Target {args vs : List Value} (ha : entryArgs PP Tryd.f87 args = some vs) (ho : Ones vs) {H : Heap} {O : Own} {Q : Value → Heap → Own → Prop} (h : (T_slices_Clone_api_Target_api_Target vs).den PP Q H O) : Triple PP F_slices_Clone_api_Target_api_Target args H O Q :=
  triple_run mixed (mkOpts_ok okL_ok _ _ _) Tryd.func87 T_slices_Clone_api_Target_api_Target_eq ha ho h

abbrev F_slices_IndexFunc_int_int : FuncId := 88
/- slices.IndexFunc[[]int,int] -/
def T_slices_IndexFunc_int_int (vs : List Value) : Tree :=
  .pure [] .len [(g vs 0)] fun v0 =>
  .loop 4 2 [(.int .i64 0)] fun C4 l1 =>
    .pure [] (.bin .lss .int) [(g l1 0), v0] fun v2 =>
    .br v2 (
      .pure [] (.idx 1) [(g vs 0), (g l1 0)] fun v3 =>
      .load [] v3 1 fun l4 =>
      .callv false (g vs 1) [(g l4 0)] [] [] .one fun l5 _ =>
      .br (g l5 0) (
        .ret (g l1 0) []) (
        .pure [] (.bin .add .int) [(g l1 0), (.int .i64 1)] fun v6 =>
        .cont 4 C4 [v6] [E [(g vs 0)], E [(g vs 1)], E [v0]])) (
      .ret (.int .i64 (-1)) [])
theorem T_slices_IndexFunc_int_int_eq (vs : List Value) : sxFun PP Tryd.f88 (mkOpts okL [(28, [5, 6, 7, 8])] [(2, .inv [8] [0, 1, 7] [])] []) vs = T_slices_IndexFunc_int_int vs := by kernel_rfl
theorem run_slices_IndexFunc_int_int {args vs : List Value} (ha : entryArgs PP Tryd.f88 args = some vs) (ho : Ones vs) {H : Heap} {O : Own} {Q : Value → Heap → Own → Prop} (h : (T_slices_IndexFunc_int_int vs).den PP Q H O) : Triple PP F_slices_IndexFunc_int_int args H O Q :=
  triple_run mixed (mkOpts_ok okL_ok _ _ _) Tryd.func88 T_slices_IndexFunc_int_int_eq ha ho h

abbrev F_slices_IndexFunc_api_Block_api_Block : FuncId := 89
/- slices.IndexFunc[[]zeitnot/api.Block,zeitnot/api.Block] -/
def T_slices_IndexFunc_api_Block_api_Block (vs : List Value) : Tree :=
  .pure [] .len [(g vs 0)] fun v0 =>
  .loop 4 2 [(.int .i64 0)] fun C4 l1 =>
    .pure [] (.bin .lss .int) [(g l1 0), v0] fun v2 =>
    .br v2 (
      .pure [] (.idx 2) [(g vs 0), (g l1 0)] fun v3 =>
      .load [] v3 2 fun l4 =>
      .callv false (g vs 1) [(.agg #[(g l4 0), (g l4 1)])] [] [] .one fun l5 _ =>
      .br (g l5 0) (
        .ret (g l1 0) []) (
        .pure [] (.bin .add .int) [(g l1 0), (.int .i64 1)] fun v6 =>
        .cont 4 C4 [v6] [E [(g vs 0)], E [(g vs 1)], E [v0]])) (
      .ret (.int .i64 (-1)) [])
theorem T_slices_IndexFunc_api_Block_api_Block_eq (vs : List Value) : sxFun PP Tryd.f89 (mkOpts okL [(28, [5, 6, 7, 8])] [(2, .inv [8] [0, 1, 7] [])] []) vs = T_slices_IndexFunc_api_Block_api_Block vs := by kernel_rfl
theorem run_slices_IndexFunc_api_Block_api_Block {args vs : List Value} (ha : entryArgs PP Tryd.f89 args = some vs) (ho : Ones vs) {H : Heap} {O : Own} {Q : Value → Heap → Own → Prop} (h : (T_slices_IndexFunc_api_Block_api_Block vs).den PP Q H O) : Triple PP F_slices_IndexFunc_api_Block_api_Block args H O Q :=
  triple_run mixed (mkOpts_ok okL_ok _ _ _) Tryd.func89 T_slices_IndexFunc_api_Block_api_Block_eq ha ho h

abbrev F_ident_Ids_bit : FuncId := 90
/- (*zeitnot/ident.Ids).bit -/
def T_ident_Ids_bit (vs : List Value) : Tree :=
  .chk (.ptr [] (g vs 0)) <|
  .chk (.ptr [] (g vs 0)) <|
  .load [] (ptrAdd (g vs 0) 1) 1 fun l0 =>
  .pure [] (.bin .sub .int) [(g vs 1), (.int .i64 1)] fun v1 =>
  .pure [] (.bin .quo .int) [v1, (.int .i64 64)] fun v2 =>
  .pure [] (.idx 1) [(g l0 0), v2] fun v3 =>
  .pure [] (.bin .sub .int) [(g vs 1), (.int .i64 1)] fun v4 =>
  .pure [] (.bin .rem .int) [v4, (.int .i64 64)] fun v5 =>
  .pure [] (.bin .shl .int) [(.int .u64 1), v5] fun v6 =>
  .ret (.tuple #[v3, v6]) []
theorem T_ident_Ids_bit_eq (vs : List Value) : sxFun PP Tryd.f90 (mkOpts okL [(28, [5, 6, 7, 8])] [] []) vs = T_ident_Ids_bit vs := by kernel_rfl
theorem run_ident_Ids_bit {args vs : List Value} (ha : entryArgs PP Tryd.f90 args = some vs) (ho : Ones vs) {H : Heap} {O : Own} {Q : Value → Heap → Own → Prop} (h : (T_ident_Ids_bit vs).den PP Q H O) : Triple PP F_ident_Ids_bit args H O Q :=
  triple_run mixed (mkOpts_ok okL_ok _ _ _) Tryd.func90 T_ident_Ids_bit_eq ha ho h

abbrev F_sat_Add : FuncId := 91
/- zeitnot/sat.Add -/
def T_sat_Add (vs : List Value) : Tree :=
  .call false 95 [(g vs 0), (g vs 1)] [] [] .one fun l0 _ =>
  .call false 94 [(g l0 0), (g vs 2)] [] [] .one fun l1 _ =>
  .ret (g l1 0) []
theorem T_sat_Add_eq (vs : List Value) : sxFun PP Tryd.f91 (mkOpts okL [(28, [5, 6, 7, 8])] [] []) vs = T_sat_Add vs := by kernel_rfl
theorem run_sat_Add {args vs : List Value} (ha : entryArgs PP Tryd.f91 args = some vs) (ho : Ones vs) {H : Heap} {O : Own} {Q : Value → Heap → Own → Prop} (h : (T_sat_Add vs).den PP Q H O) : Triple PP F_sat_Add args H O Q :=
  triple_run mixed (mkOpts_ok okL_ok _ _ _) Tryd.func91 T_sat_Add_eq ha ho h

abbrev F_slices_rotateLeft_api_Object : FuncId := 92
/- slices.rotateLeft[zeitnot/api.Object] -/
def T_slices_rotateLeft_api_Object (vs : List Value) : Tree :=
  .pure [] (.slc 12 false true false) [(g vs 0), (g vs 1)] fun v0 =>
  .call false 96 [v0] [] [] (.tup []) fun l1 _ =>
  .pure [] (.slc 12 true false false) [(g vs 0), (g vs 1)] fun v2 =>
  .call false 96 [v2] [] [] (.tup []) fun l3 _ =>
  .call false 96 [(g vs 0)] [] [] (.tup []) fun l4 _ =>
  .ret (.tuple #[]) []
theorem T_slices_rotateLeft_api_Object_eq (vs : List Value) : sxFun PP Tryd.f92 (mkOpts okL [(28, [5, 6, 7, 8])] [] []) vs = T_slices_rotateLeft_api_Object vs := by kernel_rfl
theorem run_slices_rotateLeft_api_Object {args vs : List Value} (ha : entryArgs PP Tryd.f92 args = some vs) (ho : Ones vs) {H : Heap} {O : Own} {Q : Value → Heap → Own → Prop} (h : (T_slices_rotateLeft_api_Object vs).den PP Q H O) : Triple PP F_slices_rotateLeft_api_Object args H O Q :=
  triple_run mixed (mkOpts_ok okL_ok _ _ _) Tryd.func92 T_slices_rotateLeft_api_Object_eq ha ho h

abbrev F_slices_IndexFunc_api_Target_api_Target : FuncId := 93
/- slices.IndexFunc[[]zeitnot/api.Target,zeitnot/api.Target] -/
def T_slices_IndexFunc_api_Target_api_Target (vs : List Value) : Tree :=
  .pure [] .len [(g vs 0)] fun v0 =>
  .loop 4 2 [(.int .i64 0)] fun C4 l1 =>
    .pure [] (.bin .lss .int) [(g l1 0), v0] fun v2 =>
    .br v2 (
      .pure [] (.idx 2) [(g vs 0), (g l1 0)] fun v3 =>
      .load [] v3 2 fun l4 =>
      .callv false (g vs 1) [(.agg #[(g l4 0), (g l4 1)])] [] [] .one fun l5 _ =>
      .br (g l5 0) (
        .ret (g l1 0) []) (
        .pure [] (.bin .add .int) [(g l1 0), (.int .i64 1)] fun v6 =>
        .cont 4 C4 [v6] [E [(g vs 0)], E [(g vs 1)], E [v0]])) (
      .ret (.int .i64 (-1)) [])
theorem T_slices_IndexFunc_api_Target_api_Target_eq (vs : List Value) : sxFun PP Tryd.f93 (mkOpts okL [(28, [5, 6, 7, 8])] [(2, .inv [8] [0, 1, 7] [])] []) vs = T_slices_IndexFunc_api_Target_api_Target vs := by kernel_rfl
theorem run_slices_IndexFunc_api_Target_api_Target {args vs : List Value} (ha : entryArgs PP Tryd.f93 args = some vs) (ho : Ones vs) {H : Heap} {O : Own} {Q : Value → Heap → Own → Prop} (h : (T_slices_IndexFunc_api_Target_api_Target vs).den PP Q H O) : Triple PP F_slices_IndexFunc_api_Target_api_Target args H O Q :=
  triple_run mixed (mkOpts_ok okL_ok _ _ _) Tryd.func93 T_slices_IndexFunc_api_Target_api_Target_eq ha ho h

abbrev F_sat_Clamp : FuncId := 94
/- zeitnot/sat.Clamp -/
def T_sat_Clamp (vs : List Value) : Tree :=
  .pure [] .min2 [(g vs 0), (g vs 1)] fun v0 =>
  .pure [] .max2 [(.int .i64 0), v0] fun v1 =>
  .ret v1 []
theorem T_sat_Clamp_eq (vs : List Value) : sxFun PP Tryd.f94 (mkOpts okL [(28, [5, 6, 7, 8])] [] []) vs = T_sat_Clamp vs := by kernel_rfl
theorem run_sat_Clamp {args vs : List Value} (ha : entryArgs PP Tryd.f94 args = some vs) (ho : Ones vs) {H : Heap} {O : Own} {Q : Value → Heap → Own → Prop} (h : (T_sat_Clamp vs).den PP Q H O) : Triple PP F_sat_Clamp args H O Q :=
  triple_run mixed (mkOpts_ok okL_ok _ _ _) Tryd.func94 T_sat_Clamp_eq ha ho h

abbrev F_sat_plus : FuncId := 95
/- zeitnot/sat.plus -/
def T_sat_plus (vs : List Value) : Tree :=
  .pure [] (.bin .add .int) [(g vs 0), (g vs 1)] fun v0 =>
  .pure [] (.bin .gtr .int) [(g vs 0), (.int .i64 0)] fun v1 =>
  .chk (.eqV v1 v1) <|
  .pure [] (.bin .gtr .int) [(g vs 1), (.int .i64 0)] fun v2 =>
  .chk (.eqV v1 v1) <|
  .pure [] .pick [v1, v2, (.bool false)] fun v3 =>
  .chk (.eqV v3 v3) <|
  .pure [] (.bin .leq .int) [v0, (.int .i64 0)] fun v4 =>
  .chk (.eqV v3 v3) <|
  .pure [] .pick [v3, v4, (.bool false)] fun v5 =>
  .br v5 (
    .ret (.int .i64 9223372036854775807) []) (
    .pure [] (.bin .lss .int) [(g vs 0), (.int .i64 0)] fun v6 =>
    .chk (.eqV v6 v6) <|
    .pure [] (.bin .lss .int) [(g vs 1), (.int .i64 0)] fun v7 =>
    .chk (.eqV v6 v6) <|
    .pure [] .pick [v6, v7, (.bool false)] fun v8 =>
    .chk (.eqV v8 v8) <|
    .pure [] (.bin .geq .int) [v0, (.int .i64 0)] fun v9 =>
    .chk (.eqV v8 v8) <|
    .pure [] .pick [v8, v9, (.bool false)] fun v10 =>
    .br v10 (
      .ret (.int .i64 (-9223372036854775808)) []) (
      .ret v0 []))
theorem T_sat_plus_eq (vs : List Value) : sxFun PP Tryd.f95 (mkOpts okL [(28, [5, 6, 7, 8])] [] []) vs = T_sat_plus vs := by kernel_rfl
theorem run_sat_plus {args vs : List Value} (ha : entryArgs PP Tryd.f95 args = some vs) (ho : Ones vs) {H : Heap} {O : Own} {Q : Value → Heap → Own → Prop} (h : (T_sat_plus vs).den PP Q H O) : Triple PP F_sat_plus args H O Q :=
  triple_run mixed (mkOpts_ok okL_ok _ _ _) Tryd.func95 T_sat_plus_eq ha ho h

abbrev F_slices_Reverse_api_Object_api_Object : FuncId := 96
/- slices.Reverse[[]zeitnot/api.Object,zeitnot/api.Object] -/
def T_slices_Reverse_api_Object_api_Object (vs : List Value) : Tree :=
  .pure [] .len [(g vs 0)] fun v0 =>
  .pure [] (.bin .sub .int) [v0, (.int .i64 1)] fun v1 =>
  .loop 5 1 [(.int .i64 0), v1] fun C5 l2 =>
    .pure [] (.bin .lss .int) [(g l2 0), (g l2 1)] fun v3 =>
    .br v3 (
      .pure [] (.idx 12) [(g vs 0), (g l2 1)] fun v4 =>
      .load [] v4 12 fun l5 =>
      .pure [] (.idx 12) [(g vs 0), (g l2 0)] fun v6 =>
      .load [] v6 12 fun l7 =>
      .pure [] (.idx 12) [(g vs 0), (g l2 0)] fun v8 =>
      .chk (.ptr [] v8) <|
      .store v8 [(g l5 0), (g l5 1), (g l5 2), (g l5 3), (g l5 4), (g l5 5), (g l5 6), (g l5 7), (g l5 8), (g l5 9), (g l5 10), (g l5 11)] <|
      .pure [] (.idx 12) [(g vs 0), (g l2 1)] fun v9 =>
      .chk (.ptr [] v9) <|
      .store v9 [(g l7 0), (g l7 1), (g l7 2), (g l7 3), (g l7 4), (g l7 5), (g l7 6), (g l7 7), (g l7 8), (g l7 9), (g l7 10), (g l7 11)] <|
      .pure [] (.bin .add .int) [(g l2 0), (.int .i64 1)] fun v10 =>
      .pure [] (.bin .sub .int) [(g l2 1), (.int .i64 1)] fun v11 =>
      .cont 5 C5 [v10, v11] [E [(g vs 0)]]) (
      .ret (.tuple #[]) [])
theorem T_slices_Reverse_api_Object_api_Object_eq (vs : List Value) : sxFun PP Tryd.f96 (mkOpts okL [(28, [5, 6, 7, 8])] [(1, .inv [2, 3] [0] [])] []) vs = T_slices_Reverse_api_Object_api_Object vs := by kernel_rfl
theorem run_slices_Reverse_api_Object_api_Object {args vs : List Value} (ha : entryArgs PP Tryd.f96 args = some vs) (ho : Ones vs) {H : Heap} {O : Own} {Q : Value → Heap → Own → Prop} (h : (T_slices_Reverse_api_Object_api_Object vs).den PP Q H O) : Triple PP F_slices_Reverse_api_Object_api_Object args H O Q :=
  triple_run mixed (mkOpts_ok okL_ok _ _ _) Tryd.func96 T_slices_Reverse_api_Object_api_Object_eq ha ho h

end Go.Proofs.YtjaegdkkiefchaaDoor
