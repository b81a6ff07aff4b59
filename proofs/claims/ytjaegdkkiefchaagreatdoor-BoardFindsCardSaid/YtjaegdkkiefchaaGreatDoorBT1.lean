/- The trees of the functions of this seat: printed by a tool of mine; each by the kernel's reckoning equal to the evaluator's. -/
import Derived.Test.YtjaegdkkiefchaaGreatDoorFw2
import Derived.Test.YtjaegdkkiefchaaGreatDoorProg
import Derived.KernelRfl
namespace Go.Proofs.YtjaegdkkiefchaaGreatDoor
open Go Go.Sx
set_option maxRecDepth 100000
noncomputable abbrev PP : Program := Tryz.prog
theorem mixed : PP.follows .mixedOrders = true := by kernel_rfl
def okL : List Nat := [2, 3, 4, 5, 6, 7, 8, 9, 10, 11, 12, 13, 14, 15, 16, 17, 18, 19, 20, 21, 22, 23, 24, 25, 26, 27, 28, 29, 30, 31, 32, 33, 34, 35, 36, 37, 38, 39, 40, 41, 42, 43, 44, 45, 46, 47, 48, 49, 50, 51, 52, 53, 54, 55, 56, 57, 58, 59, 60, 61, 62, 63, 64, 65, 66, 67, 68, 69, 70, 71, 72, 73, 74, 75, 76, 77, 78, 79, 80, 81, 82, 83, 84, 85, 86, 87, 88, 89, 90, 91, 92, 93, 94, 95, 96, 97, 98, 99, 100, 101, 102, 103, 104, 105, 107, 108, 109, 110, 111, 112, 113, 114, 115, 116, 117, 118, 119, 120, 121, 122, 123, 124, 125, 126, 127, 128, 129, 130, 131, 152]
theorem okL_ok : okL.all (okFnB PP) = true := by kernel_rfl
abbrev Ty_int64 : TypeId := 2
abbrev Ty_int : TypeId := 3
abbrev Ty_bool : TypeId := 4
abbrev Ty_uint8 : TypeId := 5
abbrev Ty_abi_BoundsErrorCode : TypeId := 6
abbrev Ty_runtime_boundsError : TypeId := 8
abbrev Ty_string : TypeId := 9
abbrev Ty_runtime_errorString : TypeId := 10
abbrev Ty_runtime_plainError : TypeId := 11
abbrev Ty_uintptr : TypeId := 12
abbrev Ty_runtime_errorAddressString : TypeId := 14
abbrev Ty_ptr_runtime_TypeAssertionError : TypeId := 15
abbrev Ty_ptr_runtime_PanicNilError : TypeId := 16
abbrev Ty_ptr_abi_Type : TypeId := 17
abbrev Ty_maps_unhashableTypeError : TypeId := 19
abbrev Ty_int32 : TypeId := 21
abbrev Ty_sl_api_Object : TypeId := 22
abbrev Ty_arr4_int : TypeId := 23
abbrev Ty_api_Mana : TypeId := 24
abbrev Ty_sl_int : TypeId := 25
abbrev Ty_api_Seat : TypeId := 27
abbrev Ty_arr2_api_Seat : TypeId := 28
abbrev Ty_sl_api_Item : TypeId := 29
abbrev Ty_sl_api_Block : TypeId := 30
abbrev Ty_api_Phase : TypeId := 31
abbrev Ty_api_Board : TypeId := 33
abbrev Ty_api_Object : TypeId := 40
abbrev Ty_api_Errno : TypeId := 41
abbrev Ty_api_Zone : TypeId := 47
abbrev Ty_api_Spot : TypeId := 49
abbrev Ty_sl_api_Card : TypeId := 57
abbrev Ty_arr4_sl_int : TypeId := 72
abbrev Ty_sl_sl_api_Item : TypeId := 74
abbrev Ty_sl_api_Target : TypeId := 75
abbrev Ty_api_Item : TypeId := 77
abbrev Ty_arr2_sl_int : TypeId := 79
abbrev Ty_sl_uint8 : TypeId := 80
abbrev Ty_ptr_api_Seat : TypeId := 83
abbrev Ty_api_Block : TypeId := 89
abbrev Ty_ptr_sl_int : TypeId := 90
abbrev Ty_arr4_ptr_sl_int : TypeId := 91
abbrev Ty_api_Target : TypeId := 105
abbrev Ty_ptr_ident_Ids : TypeId := 111
abbrev Ty_map_int_int : TypeId := 129
abbrev Ty_map_int_bool : TypeId := 132
abbrev Ty_api_CardKind : TypeId := 139
abbrev Ty_api_Cost : TypeId := 141
abbrev Ty_api_Colour : TypeId := 142
abbrev Ty_api_Keyword : TypeId := 143
abbrev Ty_sl_api_Effect : TypeId := 144
abbrev Ty_sl_api_Trigger : TypeId := 145
abbrev Ty_api_Card : TypeId := 147
abbrev Ty_sl_uint64 : TypeId := 149
abbrev Ty_ident_Ids : TypeId := 151
abbrev Ty_ptr_uint64 : TypeId := 152
abbrev Ty_uint64 : TypeId := 153
abbrev Ty_ptr_board_writer : TypeId := 164
abbrev Ty_board_writer : TypeId := 165
abbrev Ty_uint : TypeId := 172
abbrev Ty_map_uint8_bool : TypeId := 179
abbrev Ty_runtime_TypeAssertionError : TypeId := 183
abbrev Ty_runtime_PanicNilError : TypeId := 186
abbrev Ty_uint32 : TypeId := 188
abbrev Ty_abi_TFlag : TypeId := 189
abbrev Ty_abi_Kind : TypeId := 190
abbrev Ty_ptr_uint8 : TypeId := 192
abbrev Ty_abi_NameOff : TypeId := 193
abbrev Ty_abi_TypeOff : TypeId := 194
abbrev Ty_abi_Type : TypeId := 196
abbrev Ty_api_EffectCode : TypeId := 197
abbrev Ty_api_TargetKind : TypeId := 198
abbrev Ty_api_Effect : TypeId := 200
abbrev Ty_api_When : TypeId := 201
abbrev Ty_api_Trigger : TypeId := 203
abbrev Ty_unsafe_Pointer : TypeId := 204

abbrev F_zeitnotlaw15_BoardValid : FuncId := 3
/- zeitnot/zeitnotlaw15.BoardValid -/
def T_zeitnotlaw15_BoardValid (vs : List Value) : Tree :=
  .newbox fun r0 =>
  .newbox fun r1 =>
  .chk (.eqN r0 r0) <|
  .call false 7 [(.agg #[(g vs 0), (g vs 1), (g vs 2), (g vs 3), (g vs 4), (g vs 5), (g vs 6), (g vs 7), (g vs 8), (g vs 9), (g vs 10), (g vs 11), (g vs 12), (g vs 13), (g vs 14), (g vs 15), (g vs 16), (g vs 17), (g vs 18), (g vs 19), (g vs 20), (g vs 21), (g vs 22), (g vs 23), (g vs 24), (g vs 25), (g vs 26), (g vs 27), (g vs 28), (g vs 29), (g vs 30), (g vs 31), (g vs 32), (g vs 33), (g vs 34), (g vs 35), (g vs 36), (g vs 37)])] [] [] .one fun l0 _ =>
  .pure [] .not [(g l0 0)] fun v1 =>
  .br v1 (
    .call false 8 [] [] [] .one fun l2 _ =>
    .ret (g l2 0) []) (
    .chk (.eqN r1 r1) <|
    .call false 7 [(.agg #[(g vs 38), (g vs 39), (g vs 40), (g vs 41), (g vs 42), (g vs 43), (g vs 44), (g vs 45), (g vs 46), (g vs 47), (g vs 48), (g vs 49), (g vs 50), (g vs 51), (g vs 52), (g vs 53), (g vs 54), (g vs 55), (g vs 56), (g vs 57), (g vs 58), (g vs 59), (g vs 60), (g vs 61), (g vs 62), (g vs 63), (g vs 64), (g vs 65), (g vs 66), (g vs 67), (g vs 68), (g vs 69), (g vs 70), (g vs 71), (g vs 72), (g vs 73), (g vs 74), (g vs 75)])] [] [] .one fun l3 _ =>
    .pure [] .not [(g l3 0)] fun v4 =>
    .br v4 (
      .call false 8 [] [] [] .one fun l5 _ =>
      .ret (g l5 0) []) (
      .chk (.eqN r0 r0) <|
      .chk (.eqN r0 r0) <|
      .call false 9 [(.agg #[(g vs 0), (g vs 1), (g vs 2), (g vs 3), (g vs 4), (g vs 5), (g vs 6), (g vs 7), (g vs 8), (g vs 9), (g vs 10), (g vs 11), (g vs 12), (g vs 13), (g vs 14), (g vs 15), (g vs 16), (g vs 17), (g vs 18), (g vs 19), (g vs 20), (g vs 21), (g vs 22), (g vs 23), (g vs 24), (g vs 25), (g vs 26), (g vs 27), (g vs 28), (g vs 29), (g vs 30), (g vs 31), (g vs 32), (g vs 33), (g vs 34), (g vs 35), (g vs 36), (g vs 37)])] [] [] (.agg 38) fun l6 _ =>
      .call false 10 [(.agg #[(g vs 0), (g vs 1), (g vs 2), (g vs 3), (g vs 4), (g vs 5), (g vs 6), (g vs 7), (g vs 8), (g vs 9), (g vs 10), (g vs 11), (g vs 12), (g vs 13), (g vs 14), (g vs 15), (g vs 16), (g vs 17), (g vs 18), (g vs 19), (g vs 20), (g vs 21), (g vs 22), (g vs 23), (g vs 24), (g vs 25), (g vs 26), (g vs 27), (g vs 28), (g vs 29), (g vs 30), (g vs 31), (g vs 32), (g vs 33), (g vs 34), (g vs 35), (g vs 36), (g vs 37)])] [] [] (.agg 38) fun l7 _ =>
      .newbox fun r2 =>
      .newbox fun r3 =>
      .chk (.eqN r2 r2) <|
      .chk (.eqN r3 r3) <|
      .chk (.eqN r0 r0) <|
      .chk (.eqN r0 r0) <|
      .call false 11 [(.agg #[(g vs 0), (g vs 1), (g vs 2), (g vs 3), (g vs 4), (g vs 5), (g vs 6), (g vs 7), (g vs 8), (g vs 9), (g vs 10), (g vs 11), (g vs 12), (g vs 13), (g vs 14), (g vs 15), (g vs 16), (g vs 17), (g vs 18), (g vs 19), (g vs 20), (g vs 21), (g vs 22), (g vs 23), (g vs 24), (g vs 25), (g vs 26), (g vs 27), (g vs 28), (g vs 29), (g vs 30), (g vs 31), (g vs 32), (g vs 33), (g vs 34), (g vs 35), (g vs 36), (g vs 37)])] [] [] .one fun l8 _ =>
      .call false 12 [(.agg #[(g vs 0), (g vs 1), (g vs 2), (g vs 3), (g vs 4), (g vs 5), (g vs 6), (g vs 7), (g vs 8), (g vs 9), (g vs 10), (g vs 11), (g vs 12), (g vs 13), (g vs 14), (g vs 15), (g vs 16), (g vs 17), (g vs 18), (g vs 19), (g vs 20), (g vs 21), (g vs 22), (g vs 23), (g vs 24), (g vs 25), (g vs 26), (g vs 27), (g vs 28), (g vs 29), (g vs 30), (g vs 31), (g vs 32), (g vs 33), (g vs 34), (g vs 35), (g vs 36), (g vs 37)])] [] [] .one fun l9 _ =>
      .pure [] (.bin .neq .bool) [(g l8 0), (g l9 0)] fun v10 =>
      .br v10 (
        .ret (.bool false) []) (
        .chk (.eqN r0 r0) <|
        .chk (.eqN r1 r1) <|
        .chk (.eqN r0 r0) <|
        .chk (.eqN r1 r1) <|
        .call false 13 [(.agg #[(g vs 0), (g vs 1), (g vs 2), (g vs 3), (g vs 4), (g vs 5), (g vs 6), (g vs 7), (g vs 8), (g vs 9), (g vs 10), (g vs 11), (g vs 12), (g vs 13), (g vs 14), (g vs 15), (g vs 16), (g vs 17), (g vs 18), (g vs 19), (g vs 20), (g vs 21), (g vs 22), (g vs 23), (g vs 24), (g vs 25), (g vs 26), (g vs 27), (g vs 28), (g vs 29), (g vs 30), (g vs 31), (g vs 32), (g vs 33), (g vs 34), (g vs 35), (g vs 36), (g vs 37)]), (.agg #[(g vs 38), (g vs 39), (g vs 40), (g vs 41), (g vs 42), (g vs 43), (g vs 44), (g vs 45), (g vs 46), (g vs 47), (g vs 48), (g vs 49), (g vs 50), (g vs 51), (g vs 52), (g vs 53), (g vs 54), (g vs 55), (g vs 56), (g vs 57), (g vs 58), (g vs 59), (g vs 60), (g vs 61), (g vs 62), (g vs 63), (g vs 64), (g vs 65), (g vs 66), (g vs 67), (g vs 68), (g vs 69), (g vs 70), (g vs 71), (g vs 72), (g vs 73), (g vs 74), (g vs 75)])] [] [] .one fun l11 _ =>
        .call false 14 [(.agg #[(g vs 0), (g vs 1), (g vs 2), (g vs 3), (g vs 4), (g vs 5), (g vs 6), (g vs 7), (g vs 8), (g vs 9), (g vs 10), (g vs 11), (g vs 12), (g vs 13), (g vs 14), (g vs 15), (g vs 16), (g vs 17), (g vs 18), (g vs 19), (g vs 20), (g vs 21), (g vs 22), (g vs 23), (g vs 24), (g vs 25), (g vs 26), (g vs 27), (g vs 28), (g vs 29), (g vs 30), (g vs 31), (g vs 32), (g vs 33), (g vs 34), (g vs 35), (g vs 36), (g vs 37)]), (.agg #[(g vs 38), (g vs 39), (g vs 40), (g vs 41), (g vs 42), (g vs 43), (g vs 44), (g vs 45), (g vs 46), (g vs 47), (g vs 48), (g vs 49), (g vs 50), (g vs 51), (g vs 52), (g vs 53), (g vs 54), (g vs 55), (g vs 56), (g vs 57), (g vs 58), (g vs 59), (g vs 60), (g vs 61), (g vs 62), (g vs 63), (g vs 64), (g vs 65), (g vs 66), (g vs 67), (g vs 68), (g vs 69), (g vs 70), (g vs 71), (g vs 72), (g vs 73), (g vs 74), (g vs 75)])] [] [] .one fun l12 _ =>
        .pure [] (.bin .neq .bool) [(g l11 0), (g l12 0)] fun v13 =>
        .br v13 (
          .ret (.bool false) []) (
          .chk (.eqN r1 r1) <|
          .chk (.eqN r0 r0) <|
          .chk (.eqN r0 r0) <|
          .chk (.eqN r1 r1) <|
          .call false 13 [(.agg #[(g vs 38), (g vs 39), (g vs 40), (g vs 41), (g vs 42), (g vs 43), (g vs 44), (g vs 45), (g vs 46), (g vs 47), (g vs 48), (g vs 49), (g vs 50), (g vs 51), (g vs 52), (g vs 53), (g vs 54), (g vs 55), (g vs 56), (g vs 57), (g vs 58), (g vs 59), (g vs 60), (g vs 61), (g vs 62), (g vs 63), (g vs 64), (g vs 65), (g vs 66), (g vs 67), (g vs 68), (g vs 69), (g vs 70), (g vs 71), (g vs 72), (g vs 73), (g vs 74), (g vs 75)]), (.agg #[(g vs 0), (g vs 1), (g vs 2), (g vs 3), (g vs 4), (g vs 5), (g vs 6), (g vs 7), (g vs 8), (g vs 9), (g vs 10), (g vs 11), (g vs 12), (g vs 13), (g vs 14), (g vs 15), (g vs 16), (g vs 17), (g vs 18), (g vs 19), (g vs 20), (g vs 21), (g vs 22), (g vs 23), (g vs 24), (g vs 25), (g vs 26), (g vs 27), (g vs 28), (g vs 29), (g vs 30), (g vs 31), (g vs 32), (g vs 33), (g vs 34), (g vs 35), (g vs 36), (g vs 37)])] [] [] .one fun l14 _ =>
          .call false 14 [(.agg #[(g vs 0), (g vs 1), (g vs 2), (g vs 3), (g vs 4), (g vs 5), (g vs 6), (g vs 7), (g vs 8), (g vs 9), (g vs 10), (g vs 11), (g vs 12), (g vs 13), (g vs 14), (g vs 15), (g vs 16), (g vs 17), (g vs 18), (g vs 19), (g vs 20), (g vs 21), (g vs 22), (g vs 23), (g vs 24), (g vs 25), (g vs 26), (g vs 27), (g vs 28), (g vs 29), (g vs 30), (g vs 31), (g vs 32), (g vs 33), (g vs 34), (g vs 35), (g vs 36), (g vs 37)]), (.agg #[(g vs 38), (g vs 39), (g vs 40), (g vs 41), (g vs 42), (g vs 43), (g vs 44), (g vs 45), (g vs 46), (g vs 47), (g vs 48), (g vs 49), (g vs 50), (g vs 51), (g vs 52), (g vs 53), (g vs 54), (g vs 55), (g vs 56), (g vs 57), (g vs 58), (g vs 59), (g vs 60), (g vs 61), (g vs 62), (g vs 63), (g vs 64), (g vs 65), (g vs 66), (g vs 67), (g vs 68), (g vs 69), (g vs 70), (g vs 71), (g vs 72), (g vs 73), (g vs 74), (g vs 75)])] [] [] .one fun l15 _ =>
          .pure [] (.bin .neq .bool) [(g l14 0), (g l15 0)] fun v16 =>
          .br v16 (
            .ret (.bool false) []) (
            .chk (.eqN r0 r0) <|
            .chk (.eqN r3 r3) <|
            .call false 13 [(.agg #[(g vs 0), (g vs 1), (g vs 2), (g vs 3), (g vs 4), (g vs 5), (g vs 6), (g vs 7), (g vs 8), (g vs 9), (g vs 10), (g vs 11), (g vs 12), (g vs 13), (g vs 14), (g vs 15), (g vs 16), (g vs 17), (g vs 18), (g vs 19), (g vs 20), (g vs 21), (g vs 22), (g vs 23), (g vs 24), (g vs 25), (g vs 26), (g vs 27), (g vs 28), (g vs 29), (g vs 30), (g vs 31), (g vs 32), (g vs 33), (g vs 34), (g vs 35), (g vs 36), (g vs 37)]), (.agg #[(g l7 0), (g l7 1), (g l7 2), (g l7 3), (g l7 4), (g l7 5), (g l7 6), (g l7 7), (g l7 8), (g l7 9), (g l7 10), (g l7 11), (g l7 12), (g l7 13), (g l7 14), (g l7 15), (g l7 16), (g l7 17), (g l7 18), (g l7 19), (g l7 20), (g l7 21), (g l7 22), (g l7 23), (g l7 24), (g l7 25), (g l7 26), (g l7 27), (g l7 28), (g l7 29), (g l7 30), (g l7 31), (g l7 32), (g l7 33), (g l7 34), (g l7 35), (g l7 36), (g l7 37)])] [] [] .one fun l17 _ =>
            .pure [] .not [(g l17 0)] fun v18 =>
            .br v18 (
              .ret (.bool false) []) (
              .chk (.eqN r3 r3) <|
              .call false 15 [(.agg #[(g l7 0), (g l7 1), (g l7 2), (g l7 3), (g l7 4), (g l7 5), (g l7 6), (g l7 7), (g l7 8), (g l7 9), (g l7 10), (g l7 11), (g l7 12), (g l7 13), (g l7 14), (g l7 15), (g l7 16), (g l7 17), (g l7 18), (g l7 19), (g l7 20), (g l7 21), (g l7 22), (g l7 23), (g l7 24), (g l7 25), (g l7 26), (g l7 27), (g l7 28), (g l7 29), (g l7 30), (g l7 31), (g l7 32), (g l7 33), (g l7 34), (g l7 35), (g l7 36), (g l7 37)])] [] [] (.tup []) fun l19 _ =>
              .chk (.eqN r0 r0) <|
              .chk (.eqN r2 r2) <|
              .call false 14 [(.agg #[(g vs 0), (g vs 1), (g vs 2), (g vs 3), (g vs 4), (g vs 5), (g vs 6), (g vs 7), (g vs 8), (g vs 9), (g vs 10), (g vs 11), (g vs 12), (g vs 13), (g vs 14), (g vs 15), (g vs 16), (g vs 17), (g vs 18), (g vs 19), (g vs 20), (g vs 21), (g vs 22), (g vs 23), (g vs 24), (g vs 25), (g vs 26), (g vs 27), (g vs 28), (g vs 29), (g vs 30), (g vs 31), (g vs 32), (g vs 33), (g vs 34), (g vs 35), (g vs 36), (g vs 37)]), (.agg #[(g l6 0), (g l6 1), (g l6 2), (g l6 3), (g l6 4), (g l6 5), (g l6 6), (g l6 7), (g l6 8), (g l6 9), (g l6 10), (g l6 11), (g l6 12), (g l6 13), (g l6 14), (g l6 15), (g l6 16), (g l6 17), (g l6 18), (g l6 19), (g l6 20), (g l6 21), (g l6 22), (g l6 23), (g l6 24), (g l6 25), (g l6 26), (g l6 27), (g l6 28), (g l6 29), (g l6 30), (g l6 31), (g l6 32), (g l6 33), (g l6 34), (g l6 35), (g l6 36), (g l6 37)])] [] [] .one fun l20 _ =>
              .br (g l20 0) (
                .call false 8 [] [] [] .one fun l21 _ =>
                .ret (g l21 0) []) (
                .ret (.bool false) [])))))))
theorem T_zeitnotlaw15_BoardValid_eq (vs : List Value) : sxFun PP Tryz.f3 (mkOpts okL [(43, [5, 6, 7, 8])] [] []) vs = T_zeitnotlaw15_BoardValid vs := by kernel_rfl
theorem run_zeitnotlaw15_BoardValid {args vs : List Value} (ha : entryArgs PP Tryz.f3 args = some vs) (ho : Ones vs) {H : Heap} {O : Own} {Q : Value → Heap → Own → Prop} (h : (T_zeitnotlaw15_BoardValid vs).den PP Q H O) : Triple PP F_zeitnotlaw15_BoardValid args H O Q :=
  triple_run mixed (mkOpts_ok okL_ok _ _ _) Tryz.func3 T_zeitnotlaw15_BoardValid_eq ha ho h

abbrev F_zeitnotlaw15_BoardFinds : FuncId := 4
/- zeitnot/zeitnotlaw15.BoardFinds -/
def T_zeitnotlaw15_BoardFinds (vs : List Value) : Tree :=
  .newbox fun r0 =>
  .newbox fun r1 =>
  .chk (.eqN r0 r0) <|
  .call false 7 [(.agg #[(g vs 0), (g vs 1), (g vs 2), (g vs 3), (g vs 4), (g vs 5), (g vs 6), (g vs 7), (g vs 8), (g vs 9), (g vs 10), (g vs 11), (g vs 12), (g vs 13), (g vs 14), (g vs 15), (g vs 16), (g vs 17), (g vs 18), (g vs 19), (g vs 20), (g vs 21), (g vs 22), (g vs 23), (g vs 24), (g vs 25), (g vs 26), (g vs 27), (g vs 28), (g vs 29), (g vs 30), (g vs 31), (g vs 32), (g vs 33), (g vs 34), (g vs 35), (g vs 36), (g vs 37)])] [] [] .one fun l0 _ =>
  .pure [] .not [(g l0 0)] fun v1 =>
  .br v1 (
    .call false 8 [] [] [] .one fun l2 _ =>
    .ret (g l2 0) []) (
    .chk (.eqN r0 r0) <|
    .call false 9 [(.agg #[(g vs 0), (g vs 1), (g vs 2), (g vs 3), (g vs 4), (g vs 5), (g vs 6), (g vs 7), (g vs 8), (g vs 9), (g vs 10), (g vs 11), (g vs 12), (g vs 13), (g vs 14), (g vs 15), (g vs 16), (g vs 17), (g vs 18), (g vs 19), (g vs 20), (g vs 21), (g vs 22), (g vs 23), (g vs 24), (g vs 25), (g vs 26), (g vs 27), (g vs 28), (g vs 29), (g vs 30), (g vs 31), (g vs 32), (g vs 33), (g vs 34), (g vs 35), (g vs 36), (g vs 37)])] [] [] (.agg 38) fun l3 _ =>
    .newbox fun r2 =>
    .chk (.eqN r2 r2) <|
    .chk (.eqN r0 r0) <|
    .call false 16 [(.agg #[(g vs 0), (g vs 1), (g vs 2), (g vs 3), (g vs 4), (g vs 5), (g vs 6), (g vs 7), (g vs 8), (g vs 9), (g vs 10), (g vs 11), (g vs 12), (g vs 13), (g vs 14), (g vs 15), (g vs 16), (g vs 17), (g vs 18), (g vs 19), (g vs 20), (g vs 21), (g vs 22), (g vs 23), (g vs 24), (g vs 25), (g vs 26), (g vs 27), (g vs 28), (g vs 29), (g vs 30), (g vs 31), (g vs 32), (g vs 33), (g vs 34), (g vs 35), (g vs 36), (g vs 37)]), (g vs 38)] [] [] (.tup [some 12, none]) fun l4 _ =>
    .newbox fun r3 =>
    .chk (.eqN r3 r3) <|
    .chk (.eqN r0 r0) <|
    .chk (.eqN r1 r1) <|
    .call false 17 [(.agg #[(g vs 0), (g vs 1), (g vs 2), (g vs 3), (g vs 4), (g vs 5), (g vs 6), (g vs 7), (g vs 8), (g vs 9), (g vs 10), (g vs 11), (g vs 12), (g vs 13), (g vs 14), (g vs 15), (g vs 16), (g vs 17), (g vs 18), (g vs 19), (g vs 20), (g vs 21), (g vs 22), (g vs 23), (g vs 24), (g vs 25), (g vs 26), (g vs 27), (g vs 28), (g vs 29), (g vs 30), (g vs 31), (g vs 32), (g vs 33), (g vs 34), (g vs 35), (g vs 36), (g vs 37)]), (.agg #[(g vs 39), (g vs 40), (g vs 41), (g vs 42), (g vs 43), (g vs 44), (g vs 45), (g vs 46), (g vs 47), (g vs 48), (g vs 49), (g vs 50)])] [] [] (.tup [some 38, none]) fun l5 _ =>
    .newbox fun r4 =>
    .chk (.eqN r4 r4) <|
    .chk (.eqN r0 r0) <|
    .call false 12 [(.agg #[(g vs 0), (g vs 1), (g vs 2), (g vs 3), (g vs 4), (g vs 5), (g vs 6), (g vs 7), (g vs 8), (g vs 9), (g vs 10), (g vs 11), (g vs 12), (g vs 13), (g vs 14), (g vs 15), (g vs 16), (g vs 17), (g vs 18), (g vs 19), (g vs 20), (g vs 21), (g vs 22), (g vs 23), (g vs 24), (g vs 25), (g vs 26), (g vs 27), (g vs 28), (g vs 29), (g vs 30), (g vs 31), (g vs 32), (g vs 33), (g vs 34), (g vs 35), (g vs 36), (g vs 37)])] [] [] .one fun l6 _ =>
    .pure [] .not [(g l6 0)] fun v7 =>
    .br v7 (
      .chk (.eqN r3 r3) <|
      .raw [] (.eqv .eql 40 false) [(.agg #[(g l4 0), (g l4 1), (g l4 2), (g l4 3), (g l4 4), (g l4 5), (g l4 6), (g l4 7), (g l4 8), (g l4 9), (g l4 10), (g l4 11)]), (.agg #[(.int .i64 0), (.int .i64 0), (.int .i64 0), (.int .i64 0), (.int .i64 0), (.int .i64 0), (.int .i64 0), (.int .i64 0), (.int .i64 0), (.bool false), (.bool false), (.bool false)])] fun v8 =>
      .chk (.eqV v8 v8) <|
      .pure [] (.bin .eql .int) [(g l4 12), (.int .i64 2)] fun v9 =>
      .chk (.eqV v8 v8) <|
      .pure [] .pick [v8, v9, (.bool false)] fun v10 =>
      .br v10 (
        .chk (.eqN r0 r0) <|
        .call false 18 [(.agg #[(g vs 0), (g vs 1), (g vs 2), (g vs 3), (g vs 4), (g vs 5), (g vs 6), (g vs 7), (g vs 8), (g vs 9), (g vs 10), (g vs 11), (g vs 12), (g vs 13), (g vs 14), (g vs 15), (g vs 16), (g vs 17), (g vs 18), (g vs 19), (g vs 20), (g vs 21), (g vs 22), (g vs 23), (g vs 24), (g vs 25), (g vs 26), (g vs 27), (g vs 28), (g vs 29), (g vs 30), (g vs 31), (g vs 32), (g vs 33), (g vs 34), (g vs 35), (g vs 36), (g vs 37)]), (g vs 38), (.agg #[(.int .i64 0), (.int .i64 0), (.int .i64 0)]), (.int .i64 2)] [] [] .one fun l11 _ =>
        .br (g l11 0) (
          .chk (.eqN r4 r4) <|
          .chk (.eqN r0 r0) <|
          .chk (.eqN r2 r2) <|
          .call false 19 [(.agg #[(g l5 0), (g l5 1), (g l5 2), (g l5 3), (g l5 4), (g l5 5), (g l5 6), (g l5 7), (g l5 8), (g l5 9), (g l5 10), (g l5 11), (g l5 12), (g l5 13), (g l5 14), (g l5 15), (g l5 16), (g l5 17), (g l5 18), (g l5 19), (g l5 20), (g l5 21), (g l5 22), (g l5 23), (g l5 24), (g l5 25), (g l5 26), (g l5 27), (g l5 28), (g l5 29), (g l5 30), (g l5 31), (g l5 32), (g l5 33), (g l5 34), (g l5 35), (g l5 36), (g l5 37)]), (g l5 38), (.agg #[(.slice none 0 0), (.int .i64 0), (.int .i64 0), (.int .i64 0), (.int .i64 0), (.int .i64 0), (.slice none 0 0), (.slice none 0 0), (.slice none 0 0), (.slice none 0 0), (.bool false), (.bool false), (.bool false), (.int .i64 0), (.int .i64 0), (.int .i64 0), (.int .i64 0), (.int .i64 0), (.int .i64 0), (.int .i64 0), (.slice none 0 0), (.slice none 0 0), (.slice none 0 0), (.slice none 0 0), (.bool false), (.bool false), (.bool false), (.int .i64 0), (.int .i64 0), (.slice none 0 0), (.slice none 0 0), (.slice none 0 0), (.slice none 0 0), (.int .i64 0), (.int .i64 0), (.int .i64 0), (.int .i64 0), (.int .i64 0)]), (.int .i64 2), (.agg #[(g vs 0), (g vs 1), (g vs 2), (g vs 3), (g vs 4), (g vs 5), (g vs 6), (g vs 7), (g vs 8), (g vs 9), (g vs 10), (g vs 11), (g vs 12), (g vs 13), (g vs 14), (g vs 15), (g vs 16), (g vs 17), (g vs 18), (g vs 19), (g vs 20), (g vs 21), (g vs 22), (g vs 23), (g vs 24), (g vs 25), (g vs 26), (g vs 27), (g vs 28), (g vs 29), (g vs 30), (g vs 31), (g vs 32), (g vs 33), (g vs 34), (g vs 35), (g vs 36), (g vs 37)]), (.agg #[(g l3 0), (g l3 1), (g l3 2), (g l3 3), (g l3 4), (g l3 5), (g l3 6), (g l3 7), (g l3 8), (g l3 9), (g l3 10), (g l3 11), (g l3 12), (g l3 13), (g l3 14), (g l3 15), (g l3 16), (g l3 17), (g l3 18), (g l3 19), (g l3 20), (g l3 21), (g l3 22), (g l3 23), (g l3 24), (g l3 25), (g l3 26), (g l3 27), (g l3 28), (g l3 29), (g l3 30), (g l3 31), (g l3 32), (g l3 33), (g l3 34), (g l3 35), (g l3 36), (g l3 37)])] [] [] .one fun l12 _ =>
          .br (g l12 0) (
            .call false 8 [] [] [] .one fun l13 _ =>
            .ret (g l13 0) []) (
            .ret (.bool false) [])) (
          .ret (.bool false) [])) (
        .ret (.bool false) [])) (
      .chk (.eqN r0 r0) <|
      .call false 20 [(.agg #[(g vs 0), (g vs 1), (g vs 2), (g vs 3), (g vs 4), (g vs 5), (g vs 6), (g vs 7), (g vs 8), (g vs 9), (g vs 10), (g vs 11), (g vs 12), (g vs 13), (g vs 14), (g vs 15), (g vs 16), (g vs 17), (g vs 18), (g vs 19), (g vs 20), (g vs 21), (g vs 22), (g vs 23), (g vs 24), (g vs 25), (g vs 26), (g vs 27), (g vs 28), (g vs 29), (g vs 30), (g vs 31), (g vs 32), (g vs 33), (g vs 34), (g vs 35), (g vs 36), (g vs 37)]), (g vs 38)] [] [] (.tup [some 3, none]) fun l14 _ =>
      .newbox fun r5 =>
      .chk (.eqN r5 r5) <|
      .chk (.eqN r0 r0) <|
      .chk (.eqN r0 r0) <|
      .chk (.eqN r1 r1) <|
      .call false 21 [(.agg #[(g vs 0), (g vs 1), (g vs 2), (g vs 3), (g vs 4), (g vs 5), (g vs 6), (g vs 7), (g vs 8), (g vs 9), (g vs 10), (g vs 11), (g vs 12), (g vs 13), (g vs 14), (g vs 15), (g vs 16), (g vs 17), (g vs 18), (g vs 19), (g vs 20), (g vs 21), (g vs 22), (g vs 23), (g vs 24), (g vs 25), (g vs 26), (g vs 27), (g vs 28), (g vs 29), (g vs 30), (g vs 31), (g vs 32), (g vs 33), (g vs 34), (g vs 35), (g vs 36), (g vs 37)]), (g vs 38)] [] [] .one fun l15 _ =>
      .call false 21 [(.agg #[(g vs 0), (g vs 1), (g vs 2), (g vs 3), (g vs 4), (g vs 5), (g vs 6), (g vs 7), (g vs 8), (g vs 9), (g vs 10), (g vs 11), (g vs 12), (g vs 13), (g vs 14), (g vs 15), (g vs 16), (g vs 17), (g vs 18), (g vs 19), (g vs 20), (g vs 21), (g vs 22), (g vs 23), (g vs 24), (g vs 25), (g vs 26), (g vs 27), (g vs 28), (g vs 29), (g vs 30), (g vs 31), (g vs 32), (g vs 33), (g vs 34), (g vs 35), (g vs 36), (g vs 37)]), (g vs 39)] [] [] .one fun l16 _ =>
      .newbox fun r6 =>
      .pure [] (.bin .geq .int) [(g l15 0), (.int .i64 0)] fun v17 =>
      .br v17 (
        .chk (.eqN r0 r0) <|
        .pure [] (.idx 12) [(g vs 0), (g l15 0)] fun v18 =>
        .load [] v18 12 fun l19 =>
        .chk (.eqN r6 r6) <|
        .chk (.eqN r3 r3) <|
        .chk (.eqN r6 r6) <|
        .raw [] (.eqv .neq 40 false) [(.agg #[(g l4 0), (g l4 1), (g l4 2), (g l4 3), (g l4 4), (g l4 5), (g l4 6), (g l4 7), (g l4 8), (g l4 9), (g l4 10), (g l4 11)]), (.agg #[(g l19 0), (g l19 1), (g l19 2), (g l19 3), (g l19 4), (g l19 5), (g l19 6), (g l19 7), (g l19 8), (g l19 9), (g l19 10), (g l19 11)])] fun v20 =>
        .chk (.eqV v20 v20) <|
        .chk (.eqV v20 v20) <|
        .pure [] (.bin .neq .int) [(g l4 12), (g l14 3)] fun v21 =>
        .chk (.eqV v20 v20) <|
        .pure [] .pick [v20, (.bool true), v21] fun v22 =>
        .br v22 (
          .ret (.bool false) []) (
          .chk (.eqN r0 r0) <|
          .chk (.eqN r5 r5) <|
          .call false 18 [(.agg #[(g vs 0), (g vs 1), (g vs 2), (g vs 3), (g vs 4), (g vs 5), (g vs 6), (g vs 7), (g vs 8), (g vs 9), (g vs 10), (g vs 11), (g vs 12), (g vs 13), (g vs 14), (g vs 15), (g vs 16), (g vs 17), (g vs 18), (g vs 19), (g vs 20), (g vs 21), (g vs 22), (g vs 23), (g vs 24), (g vs 25), (g vs 26), (g vs 27), (g vs 28), (g vs 29), (g vs 30), (g vs 31), (g vs 32), (g vs 33), (g vs 34), (g vs 35), (g vs 36), (g vs 37)]), (g vs 38), (.agg #[(g l14 0), (g l14 1), (g l14 2)]), (g l14 3)] [] [] .one fun l23 _ =>
          .pure [] .not [(g l23 0)] fun v24 =>
          .br v24 (
            .ret (.bool false) []) (
            .chk (.eqN r1 r1) <|
            .call false 22 [(.agg #[(g vs 39), (g vs 40), (g vs 41), (g vs 42), (g vs 43), (g vs 44), (g vs 45), (g vs 46), (g vs 47), (g vs 48), (g vs 49), (g vs 50)])] [] [] .one fun l25 _ =>
            .pure [] .not [(g l25 0)] fun v26 =>
            .br v26 (
              .chk (.eqN r4 r4) <|
              .chk (.eqN r0 r0) <|
              .chk (.eqN r2 r2) <|
              .call false 19 [(.agg #[(g l5 0), (g l5 1), (g l5 2), (g l5 3), (g l5 4), (g l5 5), (g l5 6), (g l5 7), (g l5 8), (g l5 9), (g l5 10), (g l5 11), (g l5 12), (g l5 13), (g l5 14), (g l5 15), (g l5 16), (g l5 17), (g l5 18), (g l5 19), (g l5 20), (g l5 21), (g l5 22), (g l5 23), (g l5 24), (g l5 25), (g l5 26), (g l5 27), (g l5 28), (g l5 29), (g l5 30), (g l5 31), (g l5 32), (g l5 33), (g l5 34), (g l5 35), (g l5 36), (g l5 37)]), (g l5 38), (.agg #[(.slice none 0 0), (.int .i64 0), (.int .i64 0), (.int .i64 0), (.int .i64 0), (.int .i64 0), (.slice none 0 0), (.slice none 0 0), (.slice none 0 0), (.slice none 0 0), (.bool false), (.bool false), (.bool false), (.int .i64 0), (.int .i64 0), (.int .i64 0), (.int .i64 0), (.int .i64 0), (.int .i64 0), (.int .i64 0), (.slice none 0 0), (.slice none 0 0), (.slice none 0 0), (.slice none 0 0), (.bool false), (.bool false), (.bool false), (.int .i64 0), (.int .i64 0), (.slice none 0 0), (.slice none 0 0), (.slice none 0 0), (.slice none 0 0), (.int .i64 0), (.int .i64 0), (.int .i64 0), (.int .i64 0), (.int .i64 0)]), (.int .i64 2), (.agg #[(g vs 0), (g vs 1), (g vs 2), (g vs 3), (g vs 4), (g vs 5), (g vs 6), (g vs 7), (g vs 8), (g vs 9), (g vs 10), (g vs 11), (g vs 12), (g vs 13), (g vs 14), (g vs 15), (g vs 16), (g vs 17), (g vs 18), (g vs 19), (g vs 20), (g vs 21), (g vs 22), (g vs 23), (g vs 24), (g vs 25), (g vs 26), (g vs 27), (g vs 28), (g vs 29), (g vs 30), (g vs 31), (g vs 32), (g vs 33), (g vs 34), (g vs 35), (g vs 36), (g vs 37)]), (.agg #[(g l3 0), (g l3 1), (g l3 2), (g l3 3), (g l3 4), (g l3 5), (g l3 6), (g l3 7), (g l3 8), (g l3 9), (g l3 10), (g l3 11), (g l3 12), (g l3 13), (g l3 14), (g l3 15), (g l3 16), (g l3 17), (g l3 18), (g l3 19), (g l3 20), (g l3 21), (g l3 22), (g l3 23), (g l3 24), (g l3 25), (g l3 26), (g l3 27), (g l3 28), (g l3 29), (g l3 30), (g l3 31), (g l3 32), (g l3 33), (g l3 34), (g l3 35), (g l3 36), (g l3 37)])] [] [] .one fun l27 _ =>
              .br (g l27 0) (
                .call false 8 [] [] [] .one fun l28 _ =>
                .ret (g l28 0) []) (
                .ret (.bool false) [])) (
              .pure [] (.bin .lss .int) [(g l16 0), (.int .i64 0)] fun v29 =>
              .br v29 (
                .chk (.eqN r4 r4) <|
                .chk (.eqN r0 r0) <|
                .chk (.eqN r2 r2) <|
                .call false 19 [(.agg #[(g l5 0), (g l5 1), (g l5 2), (g l5 3), (g l5 4), (g l5 5), (g l5 6), (g l5 7), (g l5 8), (g l5 9), (g l5 10), (g l5 11), (g l5 12), (g l5 13), (g l5 14), (g l5 15), (g l5 16), (g l5 17), (g l5 18), (g l5 19), (g l5 20), (g l5 21), (g l5 22), (g l5 23), (g l5 24), (g l5 25), (g l5 26), (g l5 27), (g l5 28), (g l5 29), (g l5 30), (g l5 31), (g l5 32), (g l5 33), (g l5 34), (g l5 35), (g l5 36), (g l5 37)]), (g l5 38), (.agg #[(.slice none 0 0), (.int .i64 0), (.int .i64 0), (.int .i64 0), (.int .i64 0), (.int .i64 0), (.slice none 0 0), (.slice none 0 0), (.slice none 0 0), (.slice none 0 0), (.bool false), (.bool false), (.bool false), (.int .i64 0), (.int .i64 0), (.int .i64 0), (.int .i64 0), (.int .i64 0), (.int .i64 0), (.int .i64 0), (.slice none 0 0), (.slice none 0 0), (.slice none 0 0), (.slice none 0 0), (.bool false), (.bool false), (.bool false), (.int .i64 0), (.int .i64 0), (.slice none 0 0), (.slice none 0 0), (.slice none 0 0), (.slice none 0 0), (.int .i64 0), (.int .i64 0), (.int .i64 0), (.int .i64 0), (.int .i64 0)]), (.int .i64 9), (.agg #[(g vs 0), (g vs 1), (g vs 2), (g vs 3), (g vs 4), (g vs 5), (g vs 6), (g vs 7), (g vs 8), (g vs 9), (g vs 10), (g vs 11), (g vs 12), (g vs 13), (g vs 14), (g vs 15), (g vs 16), (g vs 17), (g vs 18), (g vs 19), (g vs 20), (g vs 21), (g vs 22), (g vs 23), (g vs 24), (g vs 25), (g vs 26), (g vs 27), (g vs 28), (g vs 29), (g vs 30), (g vs 31), (g vs 32), (g vs 33), (g vs 34), (g vs 35), (g vs 36), (g vs 37)]), (.agg #[(g l3 0), (g l3 1), (g l3 2), (g l3 3), (g l3 4), (g l3 5), (g l3 6), (g l3 7), (g l3 8), (g l3 9), (g l3 10), (g l3 11), (g l3 12), (g l3 13), (g l3 14), (g l3 15), (g l3 16), (g l3 17), (g l3 18), (g l3 19), (g l3 20), (g l3 21), (g l3 22), (g l3 23), (g l3 24), (g l3 25), (g l3 26), (g l3 27), (g l3 28), (g l3 29), (g l3 30), (g l3 31), (g l3 32), (g l3 33), (g l3 34), (g l3 35), (g l3 36), (g l3 37)])] [] [] .one fun l30 _ =>
                .br (g l30 0) (
                  .call false 8 [] [] [] .one fun l31 _ =>
                  .ret (g l31 0) []) (
                  .ret (.bool false) [])) (
                .chk (.eqN r0 r0) <|
                .pure [] (.idx 12) [(g vs 0), (g l16 0)] fun v32 =>
                .chk (.ptr [] v32) <|
                .load [] (ptrAdd v32 1) 1 fun l33 =>
                .chk (.eqN r1 r1) <|
                .pure [] (.bin .neq .int) [(g l33 0), (g vs 40)] fun v34 =>
                .chk (.eqN r0 r0) <|
                .chk (.eqV v34 v34) <|
                .chk (.eqV v34 v34) <|
                .chk (.eqV v34 v34) <|
                .pure [(v34, false)] (.idx 12) [(g vs 0), (g l16 0)] fun v35 =>
                .chk (.ptr [(v34, false)] v35) <|
                .chk (.eqV v34 v34) <|
                .chk (.eqV v34 v34) <|
                .load [(v34, false)] (ptrAdd v35 2) 1 fun l36 =>
                .chk (.eqN r1 r1) <|
                .chk (.eqV v34 v34) <|
                .chk (.eqV v34 v34) <|
                .chk (.eqV v34 v34) <|
                .pure [] (.bin .neq .int) [(g l36 0), (g vs 41)] fun v37 =>
                .chk (.eqV v34 v34) <|
                .pure [] .pick [v34, (.bool true), v37] fun v38 =>
                .br v38 (
                  .chk (.eqN r4 r4) <|
                  .chk (.eqN r0 r0) <|
                  .chk (.eqN r2 r2) <|
                  .call false 19 [(.agg #[(g l5 0), (g l5 1), (g l5 2), (g l5 3), (g l5 4), (g l5 5), (g l5 6), (g l5 7), (g l5 8), (g l5 9), (g l5 10), (g l5 11), (g l5 12), (g l5 13), (g l5 14), (g l5 15), (g l5 16), (g l5 17), (g l5 18), (g l5 19), (g l5 20), (g l5 21), (g l5 22), (g l5 23), (g l5 24), (g l5 25), (g l5 26), (g l5 27), (g l5 28), (g l5 29), (g l5 30), (g l5 31), (g l5 32), (g l5 33), (g l5 34), (g l5 35), (g l5 36), (g l5 37)]), (g l5 38), (.agg #[(.slice none 0 0), (.int .i64 0), (.int .i64 0), (.int .i64 0), (.int .i64 0), (.int .i64 0), (.slice none 0 0), (.slice none 0 0), (.slice none 0 0), (.slice none 0 0), (.bool false), (.bool false), (.bool false), (.int .i64 0), (.int .i64 0), (.int .i64 0), (.int .i64 0), (.int .i64 0), (.int .i64 0), (.int .i64 0), (.slice none 0 0), (.slice none 0 0), (.slice none 0 0), (.slice none 0 0), (.bool false), (.bool false), (.bool false), (.int .i64 0), (.int .i64 0), (.slice none 0 0), (.slice none 0 0), (.slice none 0 0), (.slice none 0 0), (.int .i64 0), (.int .i64 0), (.int .i64 0), (.int .i64 0), (.int .i64 0)]), (.int .i64 8), (.agg #[(g vs 0), (g vs 1), (g vs 2), (g vs 3), (g vs 4), (g vs 5), (g vs 6), (g vs 7), (g vs 8), (g vs 9), (g vs 10), (g vs 11), (g vs 12), (g vs 13), (g vs 14), (g vs 15), (g vs 16), (g vs 17), (g vs 18), (g vs 19), (g vs 20), (g vs 21), (g vs 22), (g vs 23), (g vs 24), (g vs 25), (g vs 26), (g vs 27), (g vs 28), (g vs 29), (g vs 30), (g vs 31), (g vs 32), (g vs 33), (g vs 34), (g vs 35), (g vs 36), (g vs 37)]), (.agg #[(g l3 0), (g l3 1), (g l3 2), (g l3 3), (g l3 4), (g l3 5), (g l3 6), (g l3 7), (g l3 8), (g l3 9), (g l3 10), (g l3 11), (g l3 12), (g l3 13), (g l3 14), (g l3 15), (g l3 16), (g l3 17), (g l3 18), (g l3 19), (g l3 20), (g l3 21), (g l3 22), (g l3 23), (g l3 24), (g l3 25), (g l3 26), (g l3 27), (g l3 28), (g l3 29), (g l3 30), (g l3 31), (g l3 32), (g l3 33), (g l3 34), (g l3 35), (g l3 36), (g l3 37)])] [] [] .one fun l39 _ =>
                  .br (g l39 0) (
                    .call false 8 [] [] [] .one fun l40 _ =>
                    .ret (g l40 0) []) (
                    .ret (.bool false) [])) (
                  .chk (.eqN r4 r4) <|
                  .chk (.eqN r0 r0) <|
                  .chk (.eqN r1 r1) <|
                  .chk (.eqN r0 r0) <|
                  .chk (.eqN r2 r2) <|
                  .call false 23 [(.agg #[(g vs 0), (g vs 1), (g vs 2), (g vs 3), (g vs 4), (g vs 5), (g vs 6), (g vs 7), (g vs 8), (g vs 9), (g vs 10), (g vs 11), (g vs 12), (g vs 13), (g vs 14), (g vs 15), (g vs 16), (g vs 17), (g vs 18), (g vs 19), (g vs 20), (g vs 21), (g vs 22), (g vs 23), (g vs 24), (g vs 25), (g vs 26), (g vs 27), (g vs 28), (g vs 29), (g vs 30), (g vs 31), (g vs 32), (g vs 33), (g vs 34), (g vs 35), (g vs 36), (g vs 37)]), (.agg #[(g vs 39), (g vs 40), (g vs 41), (g vs 42), (g vs 43), (g vs 44), (g vs 45), (g vs 46), (g vs 47), (g vs 48), (g vs 49), (g vs 50)])] [] [] (.agg 38) fun l41 _ =>
                  .call false 19 [(.agg #[(g l5 0), (g l5 1), (g l5 2), (g l5 3), (g l5 4), (g l5 5), (g l5 6), (g l5 7), (g l5 8), (g l5 9), (g l5 10), (g l5 11), (g l5 12), (g l5 13), (g l5 14), (g l5 15), (g l5 16), (g l5 17), (g l5 18), (g l5 19), (g l5 20), (g l5 21), (g l5 22), (g l5 23), (g l5 24), (g l5 25), (g l5 26), (g l5 27), (g l5 28), (g l5 29), (g l5 30), (g l5 31), (g l5 32), (g l5 33), (g l5 34), (g l5 35), (g l5 36), (g l5 37)]), (g l5 38), (.agg #[(g l41 0), (g l41 1), (g l41 2), (g l41 3), (g l41 4), (g l41 5), (g l41 6), (g l41 7), (g l41 8), (g l41 9), (g l41 10), (g l41 11), (g l41 12), (g l41 13), (g l41 14), (g l41 15), (g l41 16), (g l41 17), (g l41 18), (g l41 19), (g l41 20), (g l41 21), (g l41 22), (g l41 23), (g l41 24), (g l41 25), (g l41 26), (g l41 27), (g l41 28), (g l41 29), (g l41 30), (g l41 31), (g l41 32), (g l41 33), (g l41 34), (g l41 35), (g l41 36), (g l41 37)]), (.int .i64 0), (.agg #[(g vs 0), (g vs 1), (g vs 2), (g vs 3), (g vs 4), (g vs 5), (g vs 6), (g vs 7), (g vs 8), (g vs 9), (g vs 10), (g vs 11), (g vs 12), (g vs 13), (g vs 14), (g vs 15), (g vs 16), (g vs 17), (g vs 18), (g vs 19), (g vs 20), (g vs 21), (g vs 22), (g vs 23), (g vs 24), (g vs 25), (g vs 26), (g vs 27), (g vs 28), (g vs 29), (g vs 30), (g vs 31), (g vs 32), (g vs 33), (g vs 34), (g vs 35), (g vs 36), (g vs 37)]), (.agg #[(g l3 0), (g l3 1), (g l3 2), (g l3 3), (g l3 4), (g l3 5), (g l3 6), (g l3 7), (g l3 8), (g l3 9), (g l3 10), (g l3 11), (g l3 12), (g l3 13), (g l3 14), (g l3 15), (g l3 16), (g l3 17), (g l3 18), (g l3 19), (g l3 20), (g l3 21), (g l3 22), (g l3 23), (g l3 24), (g l3 25), (g l3 26), (g l3 27), (g l3 28), (g l3 29), (g l3 30), (g l3 31), (g l3 32), (g l3 33), (g l3 34), (g l3 35), (g l3 36), (g l3 37)])] [] [] .one fun l42 _ =>
                  .br (g l42 0) (
                    .call false 8 [] [] [] .one fun l43 _ =>
                    .ret (g l43 0) []) (
                    .ret (.bool false) []))))))) (
        .chk (.eqN r3 r3) <|
        .chk (.eqN r6 r6) <|
        .raw [] (.eqv .neq 40 false) [(.agg #[(g l4 0), (g l4 1), (g l4 2), (g l4 3), (g l4 4), (g l4 5), (g l4 6), (g l4 7), (g l4 8), (g l4 9), (g l4 10), (g l4 11)]), (.agg #[(.int .i64 0), (.int .i64 0), (.int .i64 0), (.int .i64 0), (.int .i64 0), (.int .i64 0), (.int .i64 0), (.int .i64 0), (.int .i64 0), (.bool false), (.bool false), (.bool false)])] fun v44 =>
        .chk (.eqV v44 v44) <|
        .chk (.eqV v44 v44) <|
        .pure [] (.bin .neq .int) [(g l4 12), (g l14 3)] fun v45 =>
        .chk (.eqV v44 v44) <|
        .pure [] .pick [v44, (.bool true), v45] fun v46 =>
        .br v46 (
          .ret (.bool false) []) (
          .chk (.eqN r0 r0) <|
          .chk (.eqN r5 r5) <|
          .call false 18 [(.agg #[(g vs 0), (g vs 1), (g vs 2), (g vs 3), (g vs 4), (g vs 5), (g vs 6), (g vs 7), (g vs 8), (g vs 9), (g vs 10), (g vs 11), (g vs 12), (g vs 13), (g vs 14), (g vs 15), (g vs 16), (g vs 17), (g vs 18), (g vs 19), (g vs 20), (g vs 21), (g vs 22), (g vs 23), (g vs 24), (g vs 25), (g vs 26), (g vs 27), (g vs 28), (g vs 29), (g vs 30), (g vs 31), (g vs 32), (g vs 33), (g vs 34), (g vs 35), (g vs 36), (g vs 37)]), (g vs 38), (.agg #[(g l14 0), (g l14 1), (g l14 2)]), (g l14 3)] [] [] .one fun l47 _ =>
          .pure [] .not [(g l47 0)] fun v48 =>
          .br v48 (
            .ret (.bool false) []) (
            .chk (.eqN r1 r1) <|
            .call false 22 [(.agg #[(g vs 39), (g vs 40), (g vs 41), (g vs 42), (g vs 43), (g vs 44), (g vs 45), (g vs 46), (g vs 47), (g vs 48), (g vs 49), (g vs 50)])] [] [] .one fun l49 _ =>
            .pure [] .not [(g l49 0)] fun v50 =>
            .br v50 (
              .chk (.eqN r4 r4) <|
              .chk (.eqN r0 r0) <|
              .chk (.eqN r2 r2) <|
              .call false 19 [(.agg #[(g l5 0), (g l5 1), (g l5 2), (g l5 3), (g l5 4), (g l5 5), (g l5 6), (g l5 7), (g l5 8), (g l5 9), (g l5 10), (g l5 11), (g l5 12), (g l5 13), (g l5 14), (g l5 15), (g l5 16), (g l5 17), (g l5 18), (g l5 19), (g l5 20), (g l5 21), (g l5 22), (g l5 23), (g l5 24), (g l5 25), (g l5 26), (g l5 27), (g l5 28), (g l5 29), (g l5 30), (g l5 31), (g l5 32), (g l5 33), (g l5 34), (g l5 35), (g l5 36), (g l5 37)]), (g l5 38), (.agg #[(.slice none 0 0), (.int .i64 0), (.int .i64 0), (.int .i64 0), (.int .i64 0), (.int .i64 0), (.slice none 0 0), (.slice none 0 0), (.slice none 0 0), (.slice none 0 0), (.bool false), (.bool false), (.bool false), (.int .i64 0), (.int .i64 0), (.int .i64 0), (.int .i64 0), (.int .i64 0), (.int .i64 0), (.int .i64 0), (.slice none 0 0), (.slice none 0 0), (.slice none 0 0), (.slice none 0 0), (.bool false), (.bool false), (.bool false), (.int .i64 0), (.int .i64 0), (.slice none 0 0), (.slice none 0 0), (.slice none 0 0), (.slice none 0 0), (.int .i64 0), (.int .i64 0), (.int .i64 0), (.int .i64 0), (.int .i64 0)]), (.int .i64 2), (.agg #[(g vs 0), (g vs 1), (g vs 2), (g vs 3), (g vs 4), (g vs 5), (g vs 6), (g vs 7), (g vs 8), (g vs 9), (g vs 10), (g vs 11), (g vs 12), (g vs 13), (g vs 14), (g vs 15), (g vs 16), (g vs 17), (g vs 18), (g vs 19), (g vs 20), (g vs 21), (g vs 22), (g vs 23), (g vs 24), (g vs 25), (g vs 26), (g vs 27), (g vs 28), (g vs 29), (g vs 30), (g vs 31), (g vs 32), (g vs 33), (g vs 34), (g vs 35), (g vs 36), (g vs 37)]), (.agg #[(g l3 0), (g l3 1), (g l3 2), (g l3 3), (g l3 4), (g l3 5), (g l3 6), (g l3 7), (g l3 8), (g l3 9), (g l3 10), (g l3 11), (g l3 12), (g l3 13), (g l3 14), (g l3 15), (g l3 16), (g l3 17), (g l3 18), (g l3 19), (g l3 20), (g l3 21), (g l3 22), (g l3 23), (g l3 24), (g l3 25), (g l3 26), (g l3 27), (g l3 28), (g l3 29), (g l3 30), (g l3 31), (g l3 32), (g l3 33), (g l3 34), (g l3 35), (g l3 36), (g l3 37)])] [] [] .one fun l51 _ =>
              .br (g l51 0) (
                .call false 8 [] [] [] .one fun l52 _ =>
                .ret (g l52 0) []) (
                .ret (.bool false) [])) (
              .pure [] (.bin .lss .int) [(g l16 0), (.int .i64 0)] fun v53 =>
              .br v53 (
                .chk (.eqN r4 r4) <|
                .chk (.eqN r0 r0) <|
                .chk (.eqN r2 r2) <|
                .call false 19 [(.agg #[(g l5 0), (g l5 1), (g l5 2), (g l5 3), (g l5 4), (g l5 5), (g l5 6), (g l5 7), (g l5 8), (g l5 9), (g l5 10), (g l5 11), (g l5 12), (g l5 13), (g l5 14), (g l5 15), (g l5 16), (g l5 17), (g l5 18), (g l5 19), (g l5 20), (g l5 21), (g l5 22), (g l5 23), (g l5 24), (g l5 25), (g l5 26), (g l5 27), (g l5 28), (g l5 29), (g l5 30), (g l5 31), (g l5 32), (g l5 33), (g l5 34), (g l5 35), (g l5 36), (g l5 37)]), (g l5 38), (.agg #[(.slice none 0 0), (.int .i64 0), (.int .i64 0), (.int .i64 0), (.int .i64 0), (.int .i64 0), (.slice none 0 0), (.slice none 0 0), (.slice none 0 0), (.slice none 0 0), (.bool false), (.bool false), (.bool false), (.int .i64 0), (.int .i64 0), (.int .i64 0), (.int .i64 0), (.int .i64 0), (.int .i64 0), (.int .i64 0), (.slice none 0 0), (.slice none 0 0), (.slice none 0 0), (.slice none 0 0), (.bool false), (.bool false), (.bool false), (.int .i64 0), (.int .i64 0), (.slice none 0 0), (.slice none 0 0), (.slice none 0 0), (.slice none 0 0), (.int .i64 0), (.int .i64 0), (.int .i64 0), (.int .i64 0), (.int .i64 0)]), (.int .i64 9), (.agg #[(g vs 0), (g vs 1), (g vs 2), (g vs 3), (g vs 4), (g vs 5), (g vs 6), (g vs 7), (g vs 8), (g vs 9), (g vs 10), (g vs 11), (g vs 12), (g vs 13), (g vs 14), (g vs 15), (g vs 16), (g vs 17), (g vs 18), (g vs 19), (g vs 20), (g vs 21), (g vs 22), (g vs 23), (g vs 24), (g vs 25), (g vs 26), (g vs 27), (g vs 28), (g vs 29), (g vs 30), (g vs 31), (g vs 32), (g vs 33), (g vs 34), (g vs 35), (g vs 36), (g vs 37)]), (.agg #[(g l3 0), (g l3 1), (g l3 2), (g l3 3), (g l3 4), (g l3 5), (g l3 6), (g l3 7), (g l3 8), (g l3 9), (g l3 10), (g l3 11), (g l3 12), (g l3 13), (g l3 14), (g l3 15), (g l3 16), (g l3 17), (g l3 18), (g l3 19), (g l3 20), (g l3 21), (g l3 22), (g l3 23), (g l3 24), (g l3 25), (g l3 26), (g l3 27), (g l3 28), (g l3 29), (g l3 30), (g l3 31), (g l3 32), (g l3 33), (g l3 34), (g l3 35), (g l3 36), (g l3 37)])] [] [] .one fun l54 _ =>
                .br (g l54 0) (
                  .call false 8 [] [] [] .one fun l55 _ =>
                  .ret (g l55 0) []) (
                  .ret (.bool false) [])) (
                .chk (.eqN r0 r0) <|
                .pure [] (.idx 12) [(g vs 0), (g l16 0)] fun v56 =>
                .chk (.ptr [] v56) <|
                .load [] (ptrAdd v56 1) 1 fun l57 =>
                .chk (.eqN r1 r1) <|
                .pure [] (.bin .neq .int) [(g l57 0), (g vs 40)] fun v58 =>
                .chk (.eqN r0 r0) <|
                .chk (.eqV v58 v58) <|
                .chk (.eqV v58 v58) <|
                .chk (.eqV v58 v58) <|
                .pure [(v58, false)] (.idx 12) [(g vs 0), (g l16 0)] fun v59 =>
                .chk (.ptr [(v58, false)] v59) <|
                .chk (.eqV v58 v58) <|
                .chk (.eqV v58 v58) <|
                .load [(v58, false)] (ptrAdd v59 2) 1 fun l60 =>
                .chk (.eqN r1 r1) <|
                .chk (.eqV v58 v58) <|
                .chk (.eqV v58 v58) <|
                .chk (.eqV v58 v58) <|
                .pure [] (.bin .neq .int) [(g l60 0), (g vs 41)] fun v61 =>
                .chk (.eqV v58 v58) <|
                .pure [] .pick [v58, (.bool true), v61] fun v62 =>
                .br v62 (
                  .chk (.eqN r4 r4) <|
                  .chk (.eqN r0 r0) <|
                  .chk (.eqN r2 r2) <|
                  .call false 19 [(.agg #[(g l5 0), (g l5 1), (g l5 2), (g l5 3), (g l5 4), (g l5 5), (g l5 6), (g l5 7), (g l5 8), (g l5 9), (g l5 10), (g l5 11), (g l5 12), (g l5 13), (g l5 14), (g l5 15), (g l5 16), (g l5 17), (g l5 18), (g l5 19), (g l5 20), (g l5 21), (g l5 22), (g l5 23), (g l5 24), (g l5 25), (g l5 26), (g l5 27), (g l5 28), (g l5 29), (g l5 30), (g l5 31), (g l5 32), (g l5 33), (g l5 34), (g l5 35), (g l5 36), (g l5 37)]), (g l5 38), (.agg #[(.slice none 0 0), (.int .i64 0), (.int .i64 0), (.int .i64 0), (.int .i64 0), (.int .i64 0), (.slice none 0 0), (.slice none 0 0), (.slice none 0 0), (.slice none 0 0), (.bool false), (.bool false), (.bool false), (.int .i64 0), (.int .i64 0), (.int .i64 0), (.int .i64 0), (.int .i64 0), (.int .i64 0), (.int .i64 0), (.slice none 0 0), (.slice none 0 0), (.slice none 0 0), (.slice none 0 0), (.bool false), (.bool false), (.bool false), (.int .i64 0), (.int .i64 0), (.slice none 0 0), (.slice none 0 0), (.slice none 0 0), (.slice none 0 0), (.int .i64 0), (.int .i64 0), (.int .i64 0), (.int .i64 0), (.int .i64 0)]), (.int .i64 8), (.agg #[(g vs 0), (g vs 1), (g vs 2), (g vs 3), (g vs 4), (g vs 5), (g vs 6), (g vs 7), (g vs 8), (g vs 9), (g vs 10), (g vs 11), (g vs 12), (g vs 13), (g vs 14), (g vs 15), (g vs 16), (g vs 17), (g vs 18), (g vs 19), (g vs 20), (g vs 21), (g vs 22), (g vs 23), (g vs 24), (g vs 25), (g vs 26), (g vs 27), (g vs 28), (g vs 29), (g vs 30), (g vs 31), (g vs 32), (g vs 33), (g vs 34), (g vs 35), (g vs 36), (g vs 37)]), (.agg #[(g l3 0), (g l3 1), (g l3 2), (g l3 3), (g l3 4), (g l3 5), (g l3 6), (g l3 7), (g l3 8), (g l3 9), (g l3 10), (g l3 11), (g l3 12), (g l3 13), (g l3 14), (g l3 15), (g l3 16), (g l3 17), (g l3 18), (g l3 19), (g l3 20), (g l3 21), (g l3 22), (g l3 23), (g l3 24), (g l3 25), (g l3 26), (g l3 27), (g l3 28), (g l3 29), (g l3 30), (g l3 31), (g l3 32), (g l3 33), (g l3 34), (g l3 35), (g l3 36), (g l3 37)])] [] [] .one fun l63 _ =>
                  .br (g l63 0) (
                    .call false 8 [] [] [] .one fun l64 _ =>
                    .ret (g l64 0) []) (
                    .ret (.bool false) [])) (
                  .chk (.eqN r4 r4) <|
                  .chk (.eqN r0 r0) <|
                  .chk (.eqN r1 r1) <|
                  .chk (.eqN r0 r0) <|
                  .chk (.eqN r2 r2) <|
                  .call false 23 [(.agg #[(g vs 0), (g vs 1), (g vs 2), (g vs 3), (g vs 4), (g vs 5), (g vs 6), (g vs 7), (g vs 8), (g vs 9), (g vs 10), (g vs 11), (g vs 12), (g vs 13), (g vs 14), (g vs 15), (g vs 16), (g vs 17), (g vs 18), (g vs 19), (g vs 20), (g vs 21), (g vs 22), (g vs 23), (g vs 24), (g vs 25), (g vs 26), (g vs 27), (g vs 28), (g vs 29), (g vs 30), (g vs 31), (g vs 32), (g vs 33), (g vs 34), (g vs 35), (g vs 36), (g vs 37)]), (.agg #[(g vs 39), (g vs 40), (g vs 41), (g vs 42), (g vs 43), (g vs 44), (g vs 45), (g vs 46), (g vs 47), (g vs 48), (g vs 49), (g vs 50)])] [] [] (.agg 38) fun l65 _ =>
                  .call false 19 [(.agg #[(g l5 0), (g l5 1), (g l5 2), (g l5 3), (g l5 4), (g l5 5), (g l5 6), (g l5 7), (g l5 8), (g l5 9), (g l5 10), (g l5 11), (g l5 12), (g l5 13), (g l5 14), (g l5 15), (g l5 16), (g l5 17), (g l5 18), (g l5 19), (g l5 20), (g l5 21), (g l5 22), (g l5 23), (g l5 24), (g l5 25), (g l5 26), (g l5 27), (g l5 28), (g l5 29), (g l5 30), (g l5 31), (g l5 32), (g l5 33), (g l5 34), (g l5 35), (g l5 36), (g l5 37)]), (g l5 38), (.agg #[(g l65 0), (g l65 1), (g l65 2), (g l65 3), (g l65 4), (g l65 5), (g l65 6), (g l65 7), (g l65 8), (g l65 9), (g l65 10), (g l65 11), (g l65 12), (g l65 13), (g l65 14), (g l65 15), (g l65 16), (g l65 17), (g l65 18), (g l65 19), (g l65 20), (g l65 21), (g l65 22), (g l65 23), (g l65 24), (g l65 25), (g l65 26), (g l65 27), (g l65 28), (g l65 29), (g l65 30), (g l65 31), (g l65 32), (g l65 33), (g l65 34), (g l65 35), (g l65 36), (g l65 37)]), (.int .i64 0), (.agg #[(g vs 0), (g vs 1), (g vs 2), (g vs 3), (g vs 4), (g vs 5), (g vs 6), (g vs 7), (g vs 8), (g vs 9), (g vs 10), (g vs 11), (g vs 12), (g vs 13), (g vs 14), (g vs 15), (g vs 16), (g vs 17), (g vs 18), (g vs 19), (g vs 20), (g vs 21), (g vs 22), (g vs 23), (g vs 24), (g vs 25), (g vs 26), (g vs 27), (g vs 28), (g vs 29), (g vs 30), (g vs 31), (g vs 32), (g vs 33), (g vs 34), (g vs 35), (g vs 36), (g vs 37)]), (.agg #[(g l3 0), (g l3 1), (g l3 2), (g l3 3), (g l3 4), (g l3 5), (g l3 6), (g l3 7), (g l3 8), (g l3 9), (g l3 10), (g l3 11), (g l3 12), (g l3 13), (g l3 14), (g l3 15), (g l3 16), (g l3 17), (g l3 18), (g l3 19), (g l3 20), (g l3 21), (g l3 22), (g l3 23), (g l3 24), (g l3 25), (g l3 26), (g l3 27), (g l3 28), (g l3 29), (g l3 30), (g l3 31), (g l3 32), (g l3 33), (g l3 34), (g l3 35), (g l3 36), (g l3 37)])] [] [] .one fun l66 _ =>
                  .br (g l66 0) (
                    .call false 8 [] [] [] .one fun l67 _ =>
                    .ret (g l67 0) []) (
                    .ret (.bool false) [])))))))))
theorem T_zeitnotlaw15_BoardFinds_eq (vs : List Value) : sxFun PP Tryz.f4 (mkOpts okL [(43, [5, 6, 7, 8])] [] []) vs = T_zeitnotlaw15_BoardFinds vs := by kernel_rfl
theorem run_zeitnotlaw15_BoardFinds {args vs : List Value} (ha : entryArgs PP Tryz.f4 args = some vs) (ho : Ones vs) {H : Heap} {O : Own} {Q : Value → Heap → Own → Prop} (h : (T_zeitnotlaw15_BoardFinds vs).den PP Q H O) : Triple PP F_zeitnotlaw15_BoardFinds args H O Q :=
  triple_run mixed (mkOpts_ok okL_ok _ _ _) Tryz.func4 T_zeitnotlaw15_BoardFinds_eq ha ho h

abbrev F_zeitnotlaw15_BoardTokens : FuncId := 5
abbrev F_zeitnotlaw15_BoardMoves : FuncId := 6
abbrev F_zeitnotlaw15_small : FuncId := 7
/- zeitnot/zeitnotlaw15.small -/
def T_zeitnotlaw15_small (vs : List Value) : Tree :=
  .newbox fun r0 =>
  .chk (.eqN r0 r0) <|
  .call false 35 [(.agg #[(g vs 1), (g vs 2), (g vs 3), (g vs 4), (g vs 5), (g vs 6), (g vs 7), (g vs 8), (g vs 9), (g vs 10), (g vs 11), (g vs 12), (g vs 13), (g vs 14)])] [] [] (.agg 4) fun l0 _ =>
  .pure [] .len [(g l0 0)] fun v1 =>
  .pure [] (.bin .gtr .int) [v1, (.int .i64 40)] fun v2 =>
  .br v2 (
    .ret (.bool false) []) (
    .pure [] .len [(g l0 1)] fun v3 =>
    .pure [] (.bin .gtr .int) [v3, (.int .i64 40)] fun v4 =>
    .br v4 (
      .ret (.bool false) []) (
      .pure [] .len [(g l0 2)] fun v5 =>
      .pure [] (.bin .gtr .int) [v5, (.int .i64 40)] fun v6 =>
      .br v6 (
        .ret (.bool false) []) (
        .pure [] .len [(g l0 3)] fun v7 =>
        .pure [] (.bin .gtr .int) [v7, (.int .i64 40)] fun v8 =>
        .br v8 (
          .ret (.bool false) []) (
          .chk (.eqN r0 r0) <|
          .call false 35 [(.agg #[(g vs 15), (g vs 16), (g vs 17), (g vs 18), (g vs 19), (g vs 20), (g vs 21), (g vs 22), (g vs 23), (g vs 24), (g vs 25), (g vs 26), (g vs 27), (g vs 28)])] [] [] (.agg 4) fun l9 _ =>
          .pure [] .len [(g l9 0)] fun v10 =>
          .pure [] (.bin .gtr .int) [v10, (.int .i64 40)] fun v11 =>
          .br v11 (
            .ret (.bool false) []) (
            .pure [] .len [(g l9 1)] fun v12 =>
            .pure [] (.bin .gtr .int) [v12, (.int .i64 40)] fun v13 =>
            .br v13 (
              .ret (.bool false) []) (
              .pure [] .len [(g l9 2)] fun v14 =>
              .pure [] (.bin .gtr .int) [v14, (.int .i64 40)] fun v15 =>
              .br v15 (
                .ret (.bool false) []) (
                .pure [] .len [(g l9 3)] fun v16 =>
                .pure [] (.bin .gtr .int) [v16, (.int .i64 40)] fun v17 =>
                .br v17 (
                  .ret (.bool false) []) (
                  .chk (.eqN r0 r0) <|
                  .chk (.eqN r0 r0) <|
                  .newbox fun r1 =>
                  .chk (.eqN r1 r1) <|
                  .pure [] .len [(g vs 29)] fun v18 =>
                  .pure [] (.bin .gtr .int) [v18, (.int .i64 20)] fun v19 =>
                  .br v19 (
                    .ret (.bool false) []) (
                    .loop 108 16 [(.int .i64 0)] fun C108 l20 =>
                      .pure [] .len [(g vs 29)] fun v21 =>
                      .pure [] (.bin .lss .int) [(g l20 0), v21] fun v22 =>
                      .br v22 (
                        .pure [] (.idx 5) [(g vs 29), (g l20 0)] fun v23 =>
                        .chk (.ptr [] v23) <|
                        .load [] (ptrAdd v23 4) 1 fun l24 =>
                        .pure [] .len [(g l24 0)] fun v25 =>
                        .pure [] (.bin .gtr .int) [v25, (.int .i64 6)] fun v26 =>
                        .br v26 (
                          .ret (.bool false) []) (
                          .pure [] (.bin .add .int) [(g l20 0), (.int .i64 1)] fun v27 =>
                          .cont 108 C108 [v27] [E [(.pointer (some ⟨r0, 0, none⟩))], E [(g vs 29)], E [(.slice (some ⟨r1, 0, none⟩) 2 2)], E [(.int .i64 2)], E [(.int .i64 0)], E [(.pointer (some ⟨r0, 0, none⟩)), (g vs 0), (g vs 1), (g vs 2), (g vs 3), (g vs 4), (g vs 5), (g vs 6), (g vs 7), (g vs 8), (g vs 9), (g vs 10), (g vs 11), (g vs 12), (g vs 13), (g vs 14), (g vs 15), (g vs 16), (g vs 17), (g vs 18), (g vs 19), (g vs 20), (g vs 21), (g vs 22), (g vs 23), (g vs 24), (g vs 25), (g vs 26), (g vs 27), (g vs 28), (g vs 29), (g vs 30), (g vs 31), (g vs 32), (g vs 33), (g vs 34), (g vs 35), (g vs 36), (g vs 37)], E [(.pointer (some ⟨r1, 0, none⟩)), (g vs 29), (g vs 30)]])) (
                        .chk (.eqN r1 r1) <|
                        .pure [] .len [(g vs 30)] fun v28 =>
                        .pure [] (.bin .gtr .int) [v28, (.int .i64 20)] fun v29 =>
                        .br v29 (
                          .ret (.bool false) []) (
                          .loop 123 16 [(.int .i64 0)] fun C123 l30 =>
                            .pure [] .len [(g vs 30)] fun v31 =>
                            .pure [] (.bin .lss .int) [(g l30 0), v31] fun v32 =>
                            .br v32 (
                              .pure [] (.idx 5) [(g vs 30), (g l30 0)] fun v33 =>
                              .chk (.ptr [] v33) <|
                              .load [] (ptrAdd v33 4) 1 fun l34 =>
                              .pure [] .len [(g l34 0)] fun v35 =>
                              .pure [] (.bin .gtr .int) [v35, (.int .i64 6)] fun v36 =>
                              .br v36 (
                                .ret (.bool false) []) (
                                .pure [] (.bin .add .int) [(g l30 0), (.int .i64 1)] fun v37 =>
                                .cont 123 C123 [v37] [E [(.pointer (some ⟨r0, 0, none⟩))], E [(g vs 30)], E [(.slice (some ⟨r1, 0, none⟩) 2 2)], E [(.int .i64 2)], E [(.int .i64 1)], E [(.pointer (some ⟨r0, 0, none⟩)), (g vs 0), (g vs 1), (g vs 2), (g vs 3), (g vs 4), (g vs 5), (g vs 6), (g vs 7), (g vs 8), (g vs 9), (g vs 10), (g vs 11), (g vs 12), (g vs 13), (g vs 14), (g vs 15), (g vs 16), (g vs 17), (g vs 18), (g vs 19), (g vs 20), (g vs 21), (g vs 22), (g vs 23), (g vs 24), (g vs 25), (g vs 26), (g vs 27), (g vs 28), (g vs 29), (g vs 30), (g vs 31), (g vs 32), (g vs 33), (g vs 34), (g vs 35), (g vs 36), (g vs 37)], E [(.pointer (some ⟨r1, 0, none⟩)), (g vs 29), (g vs 30)]])) (
                              .chk (.eqN r0 r0) <|
                              .pure [] .len [(g vs 0)] fun v38 =>
                              .pure [] (.bin .leq .int) [v38, (.int .i64 30)] fun v39 =>
                              .chk (.eqN r0 r0) <|
                              .chk (.eqV v39 v39) <|
                              .chk (.eqV v39 v39) <|
                              .pure [] .len [(g vs 31)] fun v40 =>
                              .chk (.eqV v39 v39) <|
                              .pure [] (.bin .leq .int) [v40, (.int .i64 30)] fun v41 =>
                              .chk (.eqV v39 v39) <|
                              .pure [] .pick [v39, v41, (.bool false)] fun v42 =>
                              .chk (.eqN r0 r0) <|
                              .chk (.eqV v42 v42) <|
                              .chk (.eqV v42 v42) <|
                              .pure [] .len [(g vs 32)] fun v43 =>
                              .chk (.eqV v42 v42) <|
                              .pure [] (.bin .leq .int) [v43, (.int .i64 30)] fun v44 =>
                              .chk (.eqV v42 v42) <|
                              .pure [] .pick [v42, v44, (.bool false)] fun v45 =>
                              .ret v45 []))))))))))))
theorem T_zeitnotlaw15_small_eq (vs : List Value) : sxFun PP Tryz.f7 (mkOpts okL [(43, [5, 6, 7, 8])] [(2, .unroll 3), (5, .unroll 5), (11, .unroll 3), (16, .inv [8] [1, 7, 29, 30, 31] [(1, []), (29, [])])] []) vs = T_zeitnotlaw15_small vs := by kernel_rfl
theorem run_zeitnotlaw15_small {args vs : List Value} (ha : entryArgs PP Tryz.f7 args = some vs) (ho : Ones vs) {H : Heap} {O : Own} {Q : Value → Heap → Own → Prop} (h : (T_zeitnotlaw15_small vs).den PP Q H O) : Triple PP F_zeitnotlaw15_small args H O Q :=
  triple_run mixed (mkOpts_ok okL_ok _ _ _) Tryz.func7 T_zeitnotlaw15_small_eq ha ho h

abbrev F_zeitnotlaw15_known : FuncId := 8
/- zeitnot/zeitnotlaw15.known: STUCK [2014] -/

abbrev F_zeitnotref15_Copy : FuncId := 9
/- zeitnot/zeitnotref15.Copy -/
def T_zeitnotref15_Copy (vs : List Value) : Tree :=
  .newbox fun r0 =>
  .newbox fun r1 =>
  .chk (.eqN r0 r0) <|
  .prim (.bi .append #[22, 22] 22) [(.slice none 0 0), (g vs 0)] [] [] .one fun l0 _ =>
  .chk (.eqN r0 r0) <|
  .chk (.eqN r0 r0) <|
  .prim (.bi .append #[25, 25] 25) [(.slice none 0 0), (g vs 6)] [] [] .one fun l1 _ =>
  .chk (.eqN r0 r0) <|
  .chk (.eqN r0 r0) <|
  .prim (.bi .append #[25, 25] 25) [(.slice none 0 0), (g vs 7)] [] [] .one fun l2 _ =>
  .chk (.eqN r0 r0) <|
  .chk (.eqN r0 r0) <|
  .prim (.bi .append #[25, 25] 25) [(.slice none 0 0), (g vs 8)] [] [] .one fun l3 _ =>
  .chk (.eqN r0 r0) <|
  .chk (.eqN r0 r0) <|
  .prim (.bi .append #[25, 25] 25) [(.slice none 0 0), (g vs 9)] [] [] .one fun l4 _ =>
  .chk (.eqN r0 r0) <|
  .chk (.eqN r0 r0) <|
  .prim (.bi .append #[25, 25] 25) [(.slice none 0 0), (g vs 20)] [] [] .one fun l5 _ =>
  .chk (.eqN r0 r0) <|
  .chk (.eqN r0 r0) <|
  .prim (.bi .append #[25, 25] 25) [(.slice none 0 0), (g vs 21)] [] [] .one fun l6 _ =>
  .chk (.eqN r0 r0) <|
  .chk (.eqN r0 r0) <|
  .prim (.bi .append #[25, 25] 25) [(.slice none 0 0), (g vs 22)] [] [] .one fun l7 _ =>
  .chk (.eqN r0 r0) <|
  .chk (.eqN r0 r0) <|
  .prim (.bi .append #[25, 25] 25) [(.slice none 0 0), (g vs 23)] [] [] .one fun l8 _ =>
  .chk (.eqN r0 r0) <|
  .chk (.eqN r0 r0) <|
  .chk (.eqN r0 r0) <|
  .call false 38 [(g vs 29)] [] [] .one fun l9 _ =>
  .call false 38 [(g vs 30)] [] [] .one fun l10 _ =>
  .chk (.eqN r0 r0) <|
  .chk (.eqN r0 r0) <|
  .chk (.eqN r0 r0) <|
  .prim (.bi .append #[25, 25] 25) [(.slice none 0 0), (g vs 31)] [] [] .one fun l11 _ =>
  .chk (.eqN r0 r0) <|
  .chk (.eqN r0 r0) <|
  .prim (.bi .append #[30, 30] 30) [(.slice none 0 0), (g vs 32)] [] [] .one fun l12 _ =>
  .chk (.eqN r0 r0) <|
  .chk (.eqN r0 r0) <|
  .chk (.eqN r1 r1) <|
  .chk (.eqN r1 r1) <|
  .ret (.agg #[(g l0 0), (g vs 1), (g vs 2), (g vs 3), (g vs 4), (g vs 5), (g l1 0), (g l2 0), (g l3 0), (g l4 0), (g vs 10), (g vs 11), (g vs 12), (g vs 13), (g vs 14), (g vs 15), (g vs 16), (g vs 17), (g vs 18), (g vs 19), (g l5 0), (g l6 0), (g l7 0), (g l8 0), (g vs 24), (g vs 25), (g vs 26), (g vs 27), (g vs 28), (g l9 0), (g l10 0), (g l11 0), (g l12 0), (g vs 33), (g vs 34), (g vs 35), (g vs 36), (g vs 37)]) []
theorem T_zeitnotref15_Copy_eq (vs : List Value) : sxFun PP Tryz.f9 (mkOpts okL [(43, [5, 6, 7, 8])] [(3, .unroll 3)] []) vs = T_zeitnotref15_Copy vs := by kernel_rfl
theorem run_zeitnotref15_Copy {args vs : List Value} (ha : entryArgs PP Tryz.f9 args = some vs) (ho : Ones vs) {H : Heap} {O : Own} {Q : Value → Heap → Own → Prop} (h : (T_zeitnotref15_Copy vs).den PP Q H O) : Triple PP F_zeitnotref15_Copy args H O Q :=
  triple_run mixed (mkOpts_ok okL_ok _ _ _) Tryz.func9 T_zeitnotref15_Copy_eq ha ho h

abbrev F_board_Copy : FuncId := 10
/- zeitnot/board.Copy -/
def T_board_Copy (vs : List Value) : Tree :=
  .newbox fun r0 =>
  .newbox fun r1 =>
  .chk (.eqN r0 r0) <|
  .chk (.eqN r0 r0) <|
  .chk (.eqN r0 r0) <|
  .call false 39 [(g vs 0)] [] [] .one fun l0 _ =>
  .call false 40 [(g vs 31)] [] [] .one fun l1 _ =>
  .call false 41 [(g vs 32)] [] [] .one fun l2 _ =>
  .chk (.eqN r0 r0) <|
  .chk (.eqN r0 r0) <|
  .chk (.eqN r0 r0) <|
  .chk (.eqN r0 r0) <|
  .chk (.eqN r0 r0) <|
  .call false 42 [(g vs 29)] [] [] .one fun l3 _ =>
  .call false 42 [(g vs 30)] [] [] .one fun l4 _ =>
  .chk (.eqN r0 r0) <|
  .chk (.eqN r0 r0) <|
  .call false 43 [(.pointer (some ⟨r0, 1, none⟩))] [] [] (.agg 4) fun l5 _ =>
  .chk (.eqV (g l5 0) (.pointer (some ⟨r0, 6, none⟩))) <|
  .chk (.eqV (g l5 1) (.pointer (some ⟨r0, 7, none⟩))) <|
  .chk (.eqV (g l5 2) (.pointer (some ⟨r0, 8, none⟩))) <|
  .chk (.eqV (g l5 3) (.pointer (some ⟨r0, 9, none⟩))) <|
  .chk (.eqN r0 r0) <|
  .call false 40 [(g vs 6)] [] [] .one fun l6 _ =>
  .chk (.eqN r0 r0) <|
  .chk (.eqN r0 r0) <|
  .call false 40 [(g vs 7)] [] [] .one fun l7 _ =>
  .chk (.eqN r0 r0) <|
  .chk (.eqN r0 r0) <|
  .call false 40 [(g vs 8)] [] [] .one fun l8 _ =>
  .chk (.eqN r0 r0) <|
  .chk (.eqN r0 r0) <|
  .call false 40 [(g vs 9)] [] [] .one fun l9 _ =>
  .chk (.eqN r0 r0) <|
  .call false 43 [(.pointer (some ⟨r0, 15, none⟩))] [] [] (.agg 4) fun l10 _ =>
  .chk (.eqV (g l10 0) (.pointer (some ⟨r0, 20, none⟩))) <|
  .chk (.eqV (g l10 1) (.pointer (some ⟨r0, 21, none⟩))) <|
  .chk (.eqV (g l10 2) (.pointer (some ⟨r0, 22, none⟩))) <|
  .chk (.eqV (g l10 3) (.pointer (some ⟨r0, 23, none⟩))) <|
  .chk (.eqN r0 r0) <|
  .call false 40 [(g vs 20)] [] [] .one fun l11 _ =>
  .chk (.eqN r0 r0) <|
  .chk (.eqN r0 r0) <|
  .call false 40 [(g vs 21)] [] [] .one fun l12 _ =>
  .chk (.eqN r0 r0) <|
  .chk (.eqN r0 r0) <|
  .call false 40 [(g vs 22)] [] [] .one fun l13 _ =>
  .chk (.eqN r0 r0) <|
  .chk (.eqN r0 r0) <|
  .call false 40 [(g vs 23)] [] [] .one fun l14 _ =>
  .chk (.eqN r0 r0) <|
  .chk (.eqN r0 r0) <|
  .chk (.eqN r1 r1) <|
  .chk (.eqN r1 r1) <|
  .ret (.agg #[(g l0 0), (g vs 1), (g vs 2), (g vs 3), (g vs 4), (g vs 5), (g l6 0), (g l7 0), (g l8 0), (g l9 0), (g vs 10), (g vs 11), (g vs 12), (g vs 13), (g vs 14), (g vs 15), (g vs 16), (g vs 17), (g vs 18), (g vs 19), (g l11 0), (g l12 0), (g l13 0), (g l14 0), (g vs 24), (g vs 25), (g vs 26), (g vs 27), (g vs 28), (g l3 0), (g l4 0), (g l1 0), (g l2 0), (g vs 33), (g vs 34), (g vs 35), (g vs 36), (g vs 37)]) []
theorem T_board_Copy_eq (vs : List Value) : sxFun PP Tryz.f10 (mkOpts okL [(43, [5, 6, 7, 8])] [(4, .unroll 3), (7, .unroll 5)] []) vs = T_board_Copy vs := by kernel_rfl
theorem run_board_Copy {args vs : List Value} (ha : entryArgs PP Tryz.f10 args = some vs) (ho : Ones vs) {H : Heap} {O : Own} {Q : Value → Heap → Own → Prop} (h : (T_board_Copy vs).den PP Q H O) : Triple PP F_board_Copy args H O Q :=
  triple_run mixed (mkOpts_ok okL_ok _ _ _) Tryz.func10 T_board_Copy_eq ha ho h

abbrev F_board_Valid : FuncId := 11
/- zeitnot/board.Valid -/
def T_board_Valid (vs : List Value) : Tree :=
  .newbox fun r0 =>
  .chk (.eqN r0 r0) <|
  .call false 44 [(g vs 34), (.int .i64 0), (.int .i64 1)] [] [] .one fun l0 _ =>
  .pure [] .not [(g l0 0)] fun v1 =>
  .br v1 (
    .ret (.bool false) []) (
    .chk (.eqN r0 r0) <|
    .call false 44 [(g vs 33), (.int .i64 0), (.int .i64 1000)] [] [] .one fun l2 _ =>
    .pure [] .not [(g l2 0)] fun v3 =>
    .br v3 (
      .ret (.bool false) []) (
      .chk (.eqN r0 r0) <|
      .call false 44 [(g vs 35), (.int .i64 0), (.int .i64 10)] [] [] .one fun l4 _ =>
      .pure [] .not [(g l4 0)] fun v5 =>
      .br v5 (
        .ret (.bool false) []) (
        .chk (.eqN r0 r0) <|
        .call false 44 [(g vs 36), (.int .i64 (-1)), (.int .i64 1)] [] [] .one fun l6 _ =>
        .pure [] .not [(g l6 0)] fun v7 =>
        .br v7 (
          .ret (.bool false) []) (
          .chk (.eqN r0 r0) <|
          .call false 44 [(g vs 37), (.int .i64 0), (.int .i64 2)] [] [] .one fun l8 _ =>
          .pure [] .not [(g l8 0)] fun v9 =>
          .chk (.eqN r0 r0) <|
          .chk (.eqV v9 v9) <|
          .chk (.eqV v9 v9) <|
          .pure [] .len [(g vs 0)] fun v10 =>
          .chk (.eqV v9 v9) <|
          .pure [] (.bin .gtr .int) [v10, (.int .i64 500)] fun v11 =>
          .chk (.eqV v9 v9) <|
          .pure [] .pick [v9, (.bool true), v11] fun v12 =>
          .chk (.eqN r0 r0) <|
          .chk (.eqV v12 v12) <|
          .chk (.eqV v12 v12) <|
          .pure [] .len [(g vs 29)] fun v13 =>
          .chk (.eqV v12 v12) <|
          .pure [] (.bin .gtr .int) [v13, (.int .i64 200)] fun v14 =>
          .chk (.eqV v12 v12) <|
          .pure [] .pick [v12, (.bool true), v14] fun v15 =>
          .chk (.eqN r0 r0) <|
          .chk (.eqV v15 v15) <|
          .chk (.eqV v15 v15) <|
          .pure [] .len [(g vs 30)] fun v16 =>
          .chk (.eqV v15 v15) <|
          .pure [] (.bin .gtr .int) [v16, (.int .i64 200)] fun v17 =>
          .chk (.eqV v15 v15) <|
          .pure [] .pick [v15, (.bool true), v17] fun v18 =>
          .br v18 (
            .ret (.bool false) []) (
            .chk (.eqN r0 r0) <|
            .newbox fun r1 =>
            .chk (.eqN r1 r1) <|
            .chk (.eqN r1 r1) <|
            .call false 44 [(g vs 1), (.int .i64 0), (.int .i64 9999)] [] [] .one fun l19 _ =>
            .pure [] .not [(g l19 0)] fun v20 =>
            .br v20 (
              .ret (.bool false) []) (
              .chk (.eqN r1 r1) <|
              .call false 45 [(.agg #[(g vs 2), (g vs 3), (g vs 4), (g vs 5)])] [] [] .one fun l21 _ =>
              .pure [] .not [(g l21 0)] fun v22 =>
              .br v22 (
                .ret (.bool false) []) (
                .chk (.eqN r1 r1) <|
                .call false 44 [(g vs 13), (.int .i64 0), (.int .i64 7)] [] [] .one fun l23 _ =>
                .pure [] .not [(g l23 0)] fun v24 =>
                .br v24 (
                  .ret (.bool false) []) (
                  .chk (.eqN r1 r1) <|
                  .call false 44 [(g vs 14), (.int .i64 0), (.int .i64 255)] [] [] .one fun l25 _ =>
                  .pure [] .not [(g l25 0)] fun v26 =>
                  .br v26 (
                    .ret (.bool false) []) (
                    .newbox fun r2 =>
                    .chk (.eqN r2 r2) <|
                    .chk (.eqN r2 r2) <|
                    .call false 44 [(g vs 15), (.int .i64 0), (.int .i64 9999)] [] [] .one fun l27 _ =>
                    .pure [] .not [(g l27 0)] fun v28 =>
                    .br v28 (
                      .ret (.bool false) []) (
                      .chk (.eqN r2 r2) <|
                      .call false 45 [(.agg #[(g vs 16), (g vs 17), (g vs 18), (g vs 19)])] [] [] .one fun l29 _ =>
                      .pure [] .not [(g l29 0)] fun v30 =>
                      .br v30 (
                        .ret (.bool false) []) (
                        .chk (.eqN r2 r2) <|
                        .call false 44 [(g vs 27), (.int .i64 0), (.int .i64 7)] [] [] .one fun l31 _ =>
                        .pure [] .not [(g l31 0)] fun v32 =>
                        .br v32 (
                          .ret (.bool false) []) (
                          .chk (.eqN r2 r2) <|
                          .call false 44 [(g vs 28), (.int .i64 0), (.int .i64 255)] [] [] .one fun l33 _ =>
                          .pure [] .not [(g l33 0)] fun v34 =>
                          .br v34 (
                            .ret (.bool false) []) (
                            .chk (.eqN r0 r0) <|
                            .call false 46 [(g vs 29), (.func (.func 47) #[] #[])] [] [] .one fun l35 _ =>
                            .br (g l35 0) (
                              .ret (.bool false) []) (
                              .chk (.eqN r0 r0) <|
                              .call false 46 [(g vs 30), (.func (.func 49) #[] #[])] [] [] .one fun l36 _ =>
                              .pure [] .not [(g l36 0)] fun v37 =>
                              .br v37 (
                                .chk (.eqN r0 r0) <|
                                .call false 50 [(.agg #[(g vs 0), (g vs 1), (g vs 2), (g vs 3), (g vs 4), (g vs 5), (g vs 6), (g vs 7), (g vs 8), (g vs 9), (g vs 10), (g vs 11), (g vs 12), (g vs 13), (g vs 14), (g vs 15), (g vs 16), (g vs 17), (g vs 18), (g vs 19), (g vs 20), (g vs 21), (g vs 22), (g vs 23), (g vs 24), (g vs 25), (g vs 26), (g vs 27), (g vs 28), (g vs 29), (g vs 30), (g vs 31), (g vs 32), (g vs 33), (g vs 34), (g vs 35), (g vs 36), (g vs 37)])] [] [] .one fun l38 _ =>
                                .br (g l38 0) (
                                  .chk (.eqN r0 r0) <|
                                  .call false 51 [(.agg #[(g vs 0), (g vs 1), (g vs 2), (g vs 3), (g vs 4), (g vs 5), (g vs 6), (g vs 7), (g vs 8), (g vs 9), (g vs 10), (g vs 11), (g vs 12), (g vs 13), (g vs 14), (g vs 15), (g vs 16), (g vs 17), (g vs 18), (g vs 19), (g vs 20), (g vs 21), (g vs 22), (g vs 23), (g vs 24), (g vs 25), (g vs 26), (g vs 27), (g vs 28), (g vs 29), (g vs 30), (g vs 31), (g vs 32), (g vs 33), (g vs 34), (g vs 35), (g vs 36), (g vs 37)])] [] [] .one fun l39 _ =>
                                  .ret (g l39 0) []) (
                                  .ret (.bool false) [])) (
                                .ret (.bool false) [])))))))))))))))
theorem T_board_Valid_eq (vs : List Value) : sxFun PP Tryz.f11 (mkOpts okL [(43, [5, 6, 7, 8])] [(4, .unroll 3)] []) vs = T_board_Valid vs := by kernel_rfl
theorem run_board_Valid {args vs : List Value} (ha : entryArgs PP Tryz.f11 args = some vs) (ho : Ones vs) {H : Heap} {O : Own} {Q : Value → Heap → Own → Prop} (h : (T_board_Valid vs).den PP Q H O) : Triple PP F_board_Valid args H O Q :=
  triple_run mixed (mkOpts_ok okL_ok _ _ _) Tryz.func11 T_board_Valid_eq ha ho h

abbrev F_zeitnotref15_Valid : FuncId := 12
/- zeitnot/zeitnotref15.Valid -/
def T_zeitnotref15_Valid (vs : List Value) : Tree :=
  .newbox fun r0 =>
  .chk (.eqN r0 r0) <|
  .pure [] (.bin .lss .int) [(g vs 34), (.int .i64 0)] fun v0 =>
  .chk (.eqN r0 r0) <|
  .chk (.eqV v0 v0) <|
  .chk (.eqV v0 v0) <|
  .pure [] (.bin .gtr .int) [(g vs 34), (.int .i64 1)] fun v1 =>
  .chk (.eqV v0 v0) <|
  .pure [] .pick [v0, (.bool true), v1] fun v2 =>
  .chk (.eqN r0 r0) <|
  .chk (.eqV v2 v2) <|
  .chk (.eqV v2 v2) <|
  .pure [] (.bin .lss .int) [(g vs 33), (.int .i64 0)] fun v3 =>
  .chk (.eqV v2 v2) <|
  .pure [] .pick [v2, (.bool true), v3] fun v4 =>
  .chk (.eqN r0 r0) <|
  .chk (.eqV v4 v4) <|
  .chk (.eqV v4 v4) <|
  .pure [] (.bin .gtr .int) [(g vs 33), (.int .i64 1000)] fun v5 =>
  .chk (.eqV v4 v4) <|
  .pure [] .pick [v4, (.bool true), v5] fun v6 =>
  .chk (.eqN r0 r0) <|
  .chk (.eqV v6 v6) <|
  .chk (.eqV v6 v6) <|
  .pure [] (.bin .lss .int) [(g vs 35), (.int .i64 0)] fun v7 =>
  .chk (.eqV v6 v6) <|
  .pure [] .pick [v6, (.bool true), v7] fun v8 =>
  .chk (.eqN r0 r0) <|
  .chk (.eqV v8 v8) <|
  .chk (.eqV v8 v8) <|
  .pure [] (.bin .gtr .int) [(g vs 35), (.int .i64 10)] fun v9 =>
  .chk (.eqV v8 v8) <|
  .pure [] .pick [v8, (.bool true), v9] fun v10 =>
  .chk (.eqN r0 r0) <|
  .chk (.eqV v10 v10) <|
  .chk (.eqV v10 v10) <|
  .pure [] (.bin .lss .int) [(g vs 36), (.int .i64 (-1))] fun v11 =>
  .chk (.eqV v10 v10) <|
  .pure [] .pick [v10, (.bool true), v11] fun v12 =>
  .chk (.eqN r0 r0) <|
  .chk (.eqV v12 v12) <|
  .chk (.eqV v12 v12) <|
  .pure [] (.bin .gtr .int) [(g vs 36), (.int .i64 1)] fun v13 =>
  .chk (.eqV v12 v12) <|
  .pure [] .pick [v12, (.bool true), v13] fun v14 =>
  .chk (.eqN r0 r0) <|
  .chk (.eqV v14 v14) <|
  .chk (.eqV v14 v14) <|
  .pure [] (.bin .lss .int) [(g vs 37), (.int .i64 0)] fun v15 =>
  .chk (.eqV v14 v14) <|
  .pure [] .pick [v14, (.bool true), v15] fun v16 =>
  .chk (.eqN r0 r0) <|
  .chk (.eqV v16 v16) <|
  .chk (.eqV v16 v16) <|
  .pure [] (.bin .gtr .int) [(g vs 37), (.int .i64 2)] fun v17 =>
  .chk (.eqV v16 v16) <|
  .pure [] .pick [v16, (.bool true), v17] fun v18 =>
  .chk (.eqN r0 r0) <|
  .chk (.eqV v18 v18) <|
  .chk (.eqV v18 v18) <|
  .pure [] .len [(g vs 0)] fun v19 =>
  .chk (.eqV v18 v18) <|
  .pure [] (.bin .gtr .int) [v19, (.int .i64 500)] fun v20 =>
  .chk (.eqV v18 v18) <|
  .pure [] .pick [v18, (.bool true), v20] fun v21 =>
  .chk (.eqN r0 r0) <|
  .chk (.eqV v21 v21) <|
  .chk (.eqV v21 v21) <|
  .pure [] .len [(g vs 29)] fun v22 =>
  .chk (.eqV v21 v21) <|
  .pure [] (.bin .gtr .int) [v22, (.int .i64 200)] fun v23 =>
  .chk (.eqV v21 v21) <|
  .pure [] .pick [v21, (.bool true), v23] fun v24 =>
  .chk (.eqN r0 r0) <|
  .chk (.eqV v24 v24) <|
  .chk (.eqV v24 v24) <|
  .pure [] .len [(g vs 30)] fun v25 =>
  .chk (.eqV v24 v24) <|
  .pure [] (.bin .gtr .int) [v25, (.int .i64 200)] fun v26 =>
  .chk (.eqV v24 v24) <|
  .pure [] .pick [v24, (.bool true), v26] fun v27 =>
  .br v27 (
    .ret (.bool false) []) (
    .loop 69 4 [(.int .i64 0)] fun C69 l28 =>
      .chk (.eqN r0 r0) <|
      .pure [] .len [(g vs 29)] fun v29 =>
      .pure [] (.bin .lss .int) [(g l28 0), v29] fun v30 =>
      .br v30 (
        .chk (.eqN r0 r0) <|
        .pure [] (.idx 5) [(g vs 29), (g l28 0)] fun v31 =>
        .load [] v31 5 fun l32 =>
        .call false 52 [(.agg #[(g l32 0), (g l32 1), (g l32 2), (g l32 3), (g l32 4)]), (.bool false)] [] [] .one fun l33 _ =>
        .pure [] .not [(g l33 0)] fun v34 =>
        .br v34 (
          .ret (.bool false) []) (
          .pure [] (.bin .add .int) [(g l28 0), (.int .i64 1)] fun v35 =>
          .cont 69 C69 [v35] [E [(.pointer (some ⟨r0, 0, none⟩))], E [(.pointer (some ⟨r0, 0, none⟩)), (g vs 0), (g vs 1), (g vs 2), (g vs 3), (g vs 4), (g vs 5), (g vs 6), (g vs 7), (g vs 8), (g vs 9), (g vs 10), (g vs 11), (g vs 12), (g vs 13), (g vs 14), (g vs 15), (g vs 16), (g vs 17), (g vs 18), (g vs 19), (g vs 20), (g vs 21), (g vs 22), (g vs 23), (g vs 24), (g vs 25), (g vs 26), (g vs 27), (g vs 28), (g vs 29), (g vs 30), (g vs 31), (g vs 32), (g vs 33), (g vs 34), (g vs 35), (g vs 36), (g vs 37)]])) (
        .loop 76 9 [(.int .i64 0)] fun C76 l36 =>
          .chk (.eqN r0 r0) <|
          .pure [] .len [(g vs 30)] fun v37 =>
          .pure [] (.bin .lss .int) [(g l36 0), v37] fun v38 =>
          .br v38 (
            .chk (.eqN r0 r0) <|
            .pure [] (.idx 5) [(g vs 30), (g l36 0)] fun v39 =>
            .load [] v39 5 fun l40 =>
            .call false 52 [(.agg #[(g l40 0), (g l40 1), (g l40 2), (g l40 3), (g l40 4)]), (.bool true)] [] [] .one fun l41 _ =>
            .pure [] .not [(g l41 0)] fun v42 =>
            .br v42 (
              .ret (.bool false) []) (
              .pure [] (.bin .add .int) [(g l36 0), (.int .i64 1)] fun v43 =>
              .cont 76 C76 [v43] [E [(.pointer (some ⟨r0, 0, none⟩))], E [(.pointer (some ⟨r0, 0, none⟩)), (g vs 0), (g vs 1), (g vs 2), (g vs 3), (g vs 4), (g vs 5), (g vs 6), (g vs 7), (g vs 8), (g vs 9), (g vs 10), (g vs 11), (g vs 12), (g vs 13), (g vs 14), (g vs 15), (g vs 16), (g vs 17), (g vs 18), (g vs 19), (g vs 20), (g vs 21), (g vs 22), (g vs 23), (g vs 24), (g vs 25), (g vs 26), (g vs 27), (g vs 28), (g vs 29), (g vs 30), (g vs 31), (g vs 32), (g vs 33), (g vs 34), (g vs 35), (g vs 36), (g vs 37)]])) (
            .chk (.eqN r0 r0) <|
            .call false 53 [(.agg #[(g vs 1), (g vs 2), (g vs 3), (g vs 4), (g vs 5), (g vs 6), (g vs 7), (g vs 8), (g vs 9), (g vs 10), (g vs 11), (g vs 12), (g vs 13), (g vs 14)])] [] [] .one fun l44 _ =>
            .br (g l44 0) (
              .chk (.eqN r0 r0) <|
              .call false 53 [(.agg #[(g vs 15), (g vs 16), (g vs 17), (g vs 18), (g vs 19), (g vs 20), (g vs 21), (g vs 22), (g vs 23), (g vs 24), (g vs 25), (g vs 26), (g vs 27), (g vs 28)])] [] [] .one fun l45 _ =>
              .br (g l45 0) (
                .chk (.eqN r0 r0) <|
                .call false 54 [(.agg #[(g vs 0), (g vs 1), (g vs 2), (g vs 3), (g vs 4), (g vs 5), (g vs 6), (g vs 7), (g vs 8), (g vs 9), (g vs 10), (g vs 11), (g vs 12), (g vs 13), (g vs 14), (g vs 15), (g vs 16), (g vs 17), (g vs 18), (g vs 19), (g vs 20), (g vs 21), (g vs 22), (g vs 23), (g vs 24), (g vs 25), (g vs 26), (g vs 27), (g vs 28), (g vs 29), (g vs 30), (g vs 31), (g vs 32), (g vs 33), (g vs 34), (g vs 35), (g vs 36), (g vs 37)])] [] [] .one fun l46 _ =>
                .br (g l46 0) (
                  .chk (.eqN r0 r0) <|
                  .call false 55 [(.agg #[(g vs 0), (g vs 1), (g vs 2), (g vs 3), (g vs 4), (g vs 5), (g vs 6), (g vs 7), (g vs 8), (g vs 9), (g vs 10), (g vs 11), (g vs 12), (g vs 13), (g vs 14), (g vs 15), (g vs 16), (g vs 17), (g vs 18), (g vs 19), (g vs 20), (g vs 21), (g vs 22), (g vs 23), (g vs 24), (g vs 25), (g vs 26), (g vs 27), (g vs 28), (g vs 29), (g vs 30), (g vs 31), (g vs 32), (g vs 33), (g vs 34), (g vs 35), (g vs 36), (g vs 37)])] [] [] .one fun l47 _ =>
                  .ret (g l47 0) []) (
                  .ret (.bool false) [])) (
                .ret (.bool false) [])) (
              .ret (.bool false) []))))
theorem T_zeitnotref15_Valid_eq (vs : List Value) : sxFun PP Tryz.f12 (mkOpts okL [(43, [5, 6, 7, 8])] [(4, .inv [3] [1] [(1, [])]), (9, .inv [4] [1] [(1, [])])] []) vs = T_zeitnotref15_Valid vs := by kernel_rfl
theorem run_zeitnotref15_Valid {args vs : List Value} (ha : entryArgs PP Tryz.f12 args = some vs) (ho : Ones vs) {H : Heap} {O : Own} {Q : Value → Heap → Own → Prop} (h : (T_zeitnotref15_Valid vs).den PP Q H O) : Triple PP F_zeitnotref15_Valid args H O Q :=
  triple_run mixed (mkOpts_ok okL_ok _ _ _) Tryz.func12 T_zeitnotref15_Valid_eq ha ho h

abbrev F_board_Equal : FuncId := 13
/- zeitnot/board.Equal -/
def T_board_Equal (vs : List Value) : Tree :=
  .newbox fun r0 =>
  .newbox fun r1 =>
  .chk (.eqN r0 r0) <|
  .chk (.eqN r1 r1) <|
  .pure [] (.bin .neq .int) [(g vs 1), (g vs 39)] fun v0 =>
  .chk (.eqV v0 v0) <|
  .chk (.eqV v0 v0) <|
  .chk (.eqN r0 r0) <|
  .chk (.eqV v0 v0) <|
  .chk (.eqV v0 v0) <|
  .chk (.eqV v0 v0) <|
  .chk (.eqN r1 r1) <|
  .chk (.eqV v0 v0) <|
  .chk (.eqV v0 v0) <|
  .chk (.eqV v0 v0) <|
  .raw [(v0, false)] (.eqv .neq 24 false) [(.agg #[(g vs 2), (g vs 3), (g vs 4), (g vs 5)]), (.agg #[(g vs 40), (g vs 41), (g vs 42), (g vs 43)])] fun v1 =>
  .chk (.eqV v0 v0) <|
  .pure [] .pick [v0, (.bool true), v1] fun v2 =>
  .chk (.eqV v2 v2) <|
  .chk (.eqV v2 v2) <|
  .chk (.eqN r0 r0) <|
  .chk (.eqV v2 v2) <|
  .chk (.eqV v2 v2) <|
  .chk (.eqV v2 v2) <|
  .chk (.eqN r1 r1) <|
  .chk (.eqV v2 v2) <|
  .chk (.eqV v2 v2) <|
  .chk (.eqV v2 v2) <|
  .pure [] (.bin .neq .bool) [(g vs 10), (g vs 48)] fun v3 =>
  .chk (.eqV v2 v2) <|
  .pure [] .pick [v2, (.bool true), v3] fun v4 =>
  .chk (.eqV v4 v4) <|
  .chk (.eqV v4 v4) <|
  .chk (.eqN r0 r0) <|
  .chk (.eqV v4 v4) <|
  .chk (.eqV v4 v4) <|
  .chk (.eqV v4 v4) <|
  .chk (.eqN r1 r1) <|
  .chk (.eqV v4 v4) <|
  .chk (.eqV v4 v4) <|
  .chk (.eqV v4 v4) <|
  .pure [] (.bin .neq .bool) [(g vs 11), (g vs 49)] fun v5 =>
  .chk (.eqV v4 v4) <|
  .pure [] .pick [v4, (.bool true), v5] fun v6 =>
  .chk (.eqV v6 v6) <|
  .chk (.eqV v6 v6) <|
  .chk (.eqN r0 r0) <|
  .chk (.eqV v6 v6) <|
  .chk (.eqV v6 v6) <|
  .chk (.eqV v6 v6) <|
  .chk (.eqN r1 r1) <|
  .chk (.eqV v6 v6) <|
  .chk (.eqV v6 v6) <|
  .chk (.eqV v6 v6) <|
  .pure [] (.bin .neq .bool) [(g vs 12), (g vs 50)] fun v7 =>
  .chk (.eqV v6 v6) <|
  .pure [] .pick [v6, (.bool true), v7] fun v8 =>
  .chk (.eqV v8 v8) <|
  .chk (.eqV v8 v8) <|
  .chk (.eqN r0 r0) <|
  .chk (.eqV v8 v8) <|
  .chk (.eqV v8 v8) <|
  .chk (.eqV v8 v8) <|
  .chk (.eqN r1 r1) <|
  .chk (.eqV v8 v8) <|
  .chk (.eqV v8 v8) <|
  .chk (.eqV v8 v8) <|
  .pure [] (.bin .neq .int) [(g vs 13), (g vs 51)] fun v9 =>
  .chk (.eqV v8 v8) <|
  .pure [] .pick [v8, (.bool true), v9] fun v10 =>
  .chk (.eqV v10 v10) <|
  .chk (.eqV v10 v10) <|
  .chk (.eqN r0 r0) <|
  .chk (.eqV v10 v10) <|
  .chk (.eqV v10 v10) <|
  .chk (.eqV v10 v10) <|
  .chk (.eqN r1 r1) <|
  .chk (.eqV v10 v10) <|
  .chk (.eqV v10 v10) <|
  .chk (.eqV v10 v10) <|
  .pure [] (.bin .neq .int) [(g vs 14), (g vs 52)] fun v11 =>
  .chk (.eqV v10 v10) <|
  .pure [] .pick [v10, (.bool true), v11] fun v12 =>
  .br v12 (
    .ret (.bool false) []) (
    .call false 43 [(.pointer (some ⟨r1, 1, none⟩))] [] [] (.agg 4) fun l13 _ =>
    .chk (.eqV (g l13 0) (.pointer (some ⟨r1, 6, none⟩))) <|
    .chk (.eqV (g l13 1) (.pointer (some ⟨r1, 7, none⟩))) <|
    .chk (.eqV (g l13 2) (.pointer (some ⟨r1, 8, none⟩))) <|
    .chk (.eqV (g l13 3) (.pointer (some ⟨r1, 9, none⟩))) <|
    .newbox fun r2 =>
    .chk (.eqN r2 r2) <|
    .call false 43 [(.pointer (some ⟨r0, 1, none⟩))] [] [] (.agg 4) fun l14 _ =>
    .chk (.eqV (g l14 0) (.pointer (some ⟨r0, 6, none⟩))) <|
    .chk (.eqV (g l14 1) (.pointer (some ⟨r0, 7, none⟩))) <|
    .chk (.eqV (g l14 2) (.pointer (some ⟨r0, 8, none⟩))) <|
    .chk (.eqV (g l14 3) (.pointer (some ⟨r0, 9, none⟩))) <|
    .chk (.eqN r0 r0) <|
    .chk (.eqN r2 r2) <|
    .chk (.eqN r1 r1) <|
    .call false 56 [(g vs 6), (g vs 44)] [] [] .one fun l15 _ =>
    .pure [] .not [(g l15 0)] fun v16 =>
    .br v16 (
      .ret (.bool false) []) (
      .chk (.eqN r0 r0) <|
      .chk (.eqN r2 r2) <|
      .chk (.eqN r1 r1) <|
      .call false 56 [(g vs 7), (g vs 45)] [] [] .one fun l17 _ =>
      .pure [] .not [(g l17 0)] fun v18 =>
      .br v18 (
        .ret (.bool false) []) (
        .chk (.eqN r0 r0) <|
        .chk (.eqN r2 r2) <|
        .chk (.eqN r1 r1) <|
        .call false 56 [(g vs 8), (g vs 46)] [] [] .one fun l19 _ =>
        .pure [] .not [(g l19 0)] fun v20 =>
        .br v20 (
          .ret (.bool false) []) (
          .chk (.eqN r0 r0) <|
          .chk (.eqN r2 r2) <|
          .chk (.eqN r1 r1) <|
          .call false 56 [(g vs 9), (g vs 47)] [] [] .one fun l21 _ =>
          .pure [] .not [(g l21 0)] fun v22 =>
          .br v22 (
            .ret (.bool false) []) (
            .chk (.eqN r0 r0) <|
            .chk (.eqN r1 r1) <|
            .pure [] (.bin .neq .int) [(g vs 15), (g vs 53)] fun v23 =>
            .chk (.eqV v23 v23) <|
            .chk (.eqV v23 v23) <|
            .chk (.eqN r0 r0) <|
            .chk (.eqV v23 v23) <|
            .chk (.eqV v23 v23) <|
            .chk (.eqV v23 v23) <|
            .chk (.eqN r1 r1) <|
            .chk (.eqV v23 v23) <|
            .chk (.eqV v23 v23) <|
            .chk (.eqV v23 v23) <|
            .raw [(v23, false)] (.eqv .neq 24 false) [(.agg #[(g vs 16), (g vs 17), (g vs 18), (g vs 19)]), (.agg #[(g vs 54), (g vs 55), (g vs 56), (g vs 57)])] fun v24 =>
            .chk (.eqV v23 v23) <|
            .pure [] .pick [v23, (.bool true), v24] fun v25 =>
            .chk (.eqV v25 v25) <|
            .chk (.eqV v25 v25) <|
            .chk (.eqN r0 r0) <|
            .chk (.eqV v25 v25) <|
            .chk (.eqV v25 v25) <|
            .chk (.eqV v25 v25) <|
            .chk (.eqN r1 r1) <|
            .chk (.eqV v25 v25) <|
            .chk (.eqV v25 v25) <|
            .chk (.eqV v25 v25) <|
            .pure [] (.bin .neq .bool) [(g vs 24), (g vs 62)] fun v26 =>
            .chk (.eqV v25 v25) <|
            .pure [] .pick [v25, (.bool true), v26] fun v27 =>
            .chk (.eqV v27 v27) <|
            .chk (.eqV v27 v27) <|
            .chk (.eqN r0 r0) <|
            .chk (.eqV v27 v27) <|
            .chk (.eqV v27 v27) <|
            .chk (.eqV v27 v27) <|
            .chk (.eqN r1 r1) <|
            .chk (.eqV v27 v27) <|
            .chk (.eqV v27 v27) <|
            .chk (.eqV v27 v27) <|
            .pure [] (.bin .neq .bool) [(g vs 25), (g vs 63)] fun v28 =>
            .chk (.eqV v27 v27) <|
            .pure [] .pick [v27, (.bool true), v28] fun v29 =>
            .chk (.eqV v29 v29) <|
            .chk (.eqV v29 v29) <|
            .chk (.eqN r0 r0) <|
            .chk (.eqV v29 v29) <|
            .chk (.eqV v29 v29) <|
            .chk (.eqV v29 v29) <|
            .chk (.eqN r1 r1) <|
            .chk (.eqV v29 v29) <|
            .chk (.eqV v29 v29) <|
            .chk (.eqV v29 v29) <|
            .pure [] (.bin .neq .bool) [(g vs 26), (g vs 64)] fun v30 =>
            .chk (.eqV v29 v29) <|
            .pure [] .pick [v29, (.bool true), v30] fun v31 =>
            .chk (.eqV v31 v31) <|
            .chk (.eqV v31 v31) <|
            .chk (.eqN r0 r0) <|
            .chk (.eqV v31 v31) <|
            .chk (.eqV v31 v31) <|
            .chk (.eqV v31 v31) <|
            .chk (.eqN r1 r1) <|
            .chk (.eqV v31 v31) <|
            .chk (.eqV v31 v31) <|
            .chk (.eqV v31 v31) <|
            .pure [] (.bin .neq .int) [(g vs 27), (g vs 65)] fun v32 =>
            .chk (.eqV v31 v31) <|
            .pure [] .pick [v31, (.bool true), v32] fun v33 =>
            .chk (.eqV v33 v33) <|
            .chk (.eqV v33 v33) <|
            .chk (.eqN r0 r0) <|
            .chk (.eqV v33 v33) <|
            .chk (.eqV v33 v33) <|
            .chk (.eqV v33 v33) <|
            .chk (.eqN r1 r1) <|
            .chk (.eqV v33 v33) <|
            .chk (.eqV v33 v33) <|
            .chk (.eqV v33 v33) <|
            .pure [] (.bin .neq .int) [(g vs 28), (g vs 66)] fun v34 =>
            .chk (.eqV v33 v33) <|
            .pure [] .pick [v33, (.bool true), v34] fun v35 =>
            .br v35 (
              .ret (.bool false) []) (
              .call false 43 [(.pointer (some ⟨r1, 15, none⟩))] [] [] (.agg 4) fun l36 _ =>
              .chk (.eqV (g l36 0) (.pointer (some ⟨r1, 20, none⟩))) <|
              .chk (.eqV (g l36 1) (.pointer (some ⟨r1, 21, none⟩))) <|
              .chk (.eqV (g l36 2) (.pointer (some ⟨r1, 22, none⟩))) <|
              .chk (.eqV (g l36 3) (.pointer (some ⟨r1, 23, none⟩))) <|
              .newbox fun r3 =>
              .chk (.eqN r3 r3) <|
              .call false 43 [(.pointer (some ⟨r0, 15, none⟩))] [] [] (.agg 4) fun l37 _ =>
              .chk (.eqV (g l37 0) (.pointer (some ⟨r0, 20, none⟩))) <|
              .chk (.eqV (g l37 1) (.pointer (some ⟨r0, 21, none⟩))) <|
              .chk (.eqV (g l37 2) (.pointer (some ⟨r0, 22, none⟩))) <|
              .chk (.eqV (g l37 3) (.pointer (some ⟨r0, 23, none⟩))) <|
              .chk (.eqN r0 r0) <|
              .chk (.eqN r3 r3) <|
              .chk (.eqN r1 r1) <|
              .call false 56 [(g vs 20), (g vs 58)] [] [] .one fun l38 _ =>
              .pure [] .not [(g l38 0)] fun v39 =>
              .br v39 (
                .ret (.bool false) []) (
                .chk (.eqN r0 r0) <|
                .chk (.eqN r3 r3) <|
                .chk (.eqN r1 r1) <|
                .call false 56 [(g vs 21), (g vs 59)] [] [] .one fun l40 _ =>
                .pure [] .not [(g l40 0)] fun v41 =>
                .br v41 (
                  .ret (.bool false) []) (
                  .chk (.eqN r0 r0) <|
                  .chk (.eqN r3 r3) <|
                  .chk (.eqN r1 r1) <|
                  .call false 56 [(g vs 22), (g vs 60)] [] [] .one fun l42 _ =>
                  .pure [] .not [(g l42 0)] fun v43 =>
                  .br v43 (
                    .ret (.bool false) []) (
                    .chk (.eqN r0 r0) <|
                    .chk (.eqN r3 r3) <|
                    .chk (.eqN r1 r1) <|
                    .call false 56 [(g vs 23), (g vs 61)] [] [] .one fun l44 _ =>
                    .pure [] .not [(g l44 0)] fun v45 =>
                    .br v45 (
                      .ret (.bool false) []) (
                      .chk (.eqN r0 r0) <|
                      .chk (.eqN r1 r1) <|
                      .pure [] (.bin .eql .int) [(g vs 33), (g vs 71)] fun v46 =>
                      .chk (.eqN r0 r0) <|
                      .chk (.eqV v46 v46) <|
                      .chk (.eqN r1 r1) <|
                      .chk (.eqV v46 v46) <|
                      .chk (.eqV v46 v46) <|
                      .chk (.eqV v46 v46) <|
                      .pure [] (.bin .eql .int) [(g vs 34), (g vs 72)] fun v47 =>
                      .chk (.eqV v46 v46) <|
                      .pure [] .pick [v46, v47, (.bool false)] fun v48 =>
                      .chk (.eqN r0 r0) <|
                      .chk (.eqV v48 v48) <|
                      .chk (.eqN r1 r1) <|
                      .chk (.eqV v48 v48) <|
                      .chk (.eqV v48 v48) <|
                      .chk (.eqV v48 v48) <|
                      .pure [] (.bin .eql .int) [(g vs 35), (g vs 73)] fun v49 =>
                      .chk (.eqV v48 v48) <|
                      .pure [] .pick [v48, v49, (.bool false)] fun v50 =>
                      .chk (.eqN r0 r0) <|
                      .chk (.eqV v50 v50) <|
                      .chk (.eqN r1 r1) <|
                      .chk (.eqV v50 v50) <|
                      .chk (.eqV v50 v50) <|
                      .chk (.eqV v50 v50) <|
                      .pure [] (.bin .eql .int) [(g vs 36), (g vs 74)] fun v51 =>
                      .chk (.eqV v50 v50) <|
                      .pure [] .pick [v50, v51, (.bool false)] fun v52 =>
                      .chk (.eqN r0 r0) <|
                      .chk (.eqV v52 v52) <|
                      .chk (.eqN r1 r1) <|
                      .chk (.eqV v52 v52) <|
                      .chk (.eqV v52 v52) <|
                      .chk (.eqV v52 v52) <|
                      .pure [] (.bin .eql .int) [(g vs 37), (g vs 75)] fun v53 =>
                      .chk (.eqV v52 v52) <|
                      .pure [] .pick [v52, v53, (.bool false)] fun v54 =>
                      .br v54 (
                        .chk (.eqN r0 r0) <|
                        .chk (.eqN r1 r1) <|
                        .call false 57 [(g vs 0), (g vs 38)] [] [] .one fun l55 _ =>
                        .br (g l55 0) (
                          .chk (.eqN r0 r0) <|
                          .chk (.eqN r1 r1) <|
                          .call false 58 [(g vs 29), (g vs 67), (.func (.func 59) #[] #[])] [] [] .one fun l56 _ =>
                          .br (g l56 0) (
                            .chk (.eqN r0 r0) <|
                            .chk (.eqN r1 r1) <|
                            .call false 58 [(g vs 30), (g vs 68), (.func (.func 59) #[] #[])] [] [] .one fun l57 _ =>
                            .br (g l57 0) (
                              .chk (.eqN r0 r0) <|
                              .chk (.eqN r1 r1) <|
                              .call false 56 [(g vs 31), (g vs 69)] [] [] .one fun l58 _ =>
                              .br (g l58 0) (
                                .chk (.eqN r0 r0) <|
                                .chk (.eqN r1 r1) <|
                                .call false 60 [(g vs 32), (g vs 70)] [] [] .one fun l59 _ =>
                                .ret (g l59 0) []) (
                                .ret (.bool false) [])) (
                              .ret (.bool false) [])) (
                            .ret (.bool false) [])) (
                          .ret (.bool false) [])) (
                        .ret (.bool false) [])))))))))))
theorem T_board_Equal_eq (vs : List Value) : sxFun PP Tryz.f13 (mkOpts okL [(43, [5, 6, 7, 8])] [(2, .unroll 3), (9, .unroll 5)] []) vs = T_board_Equal vs := by kernel_rfl
theorem run_board_Equal {args vs : List Value} (ha : entryArgs PP Tryz.f13 args = some vs) (ho : Ones vs) {H : Heap} {O : Own} {Q : Value → Heap → Own → Prop} (h : (T_board_Equal vs).den PP Q H O) : Triple PP F_board_Equal args H O Q :=
  triple_run mixed (mkOpts_ok okL_ok _ _ _) Tryz.func13 T_board_Equal_eq ha ho h

abbrev F_zeitnotref15_Same : FuncId := 14
/- zeitnot/zeitnotref15.Same -/
def T_zeitnotref15_Same (vs : List Value) : Tree :=
  .newbox fun r0 =>
  .newbox fun r1 =>
  .chk (.eqN r0 r0) <|
  .pure [] .len [(g vs 0)] fun v0 =>
  .chk (.eqN r1 r1) <|
  .pure [] .len [(g vs 38)] fun v1 =>
  .pure [] (.bin .neq .int) [v0, v1] fun v2 =>
  .br v2 (
    .ret (.bool false) []) (
    .chk (.eqN r0 r0) <|
    .chk (.eqN r1 r1) <|
    .call false 61 [(g vs 29), (g vs 67)] [] [] .one fun l3 _ =>
    .pure [] .not [(g l3 0)] fun v4 =>
    .br v4 (
      .ret (.bool false) []) (
      .chk (.eqN r0 r0) <|
      .chk (.eqN r1 r1) <|
      .call false 61 [(g vs 30), (g vs 68)] [] [] .one fun l5 _ =>
      .pure [] .not [(g l5 0)] fun v6 =>
      .br v6 (
        .ret (.bool false) []) (
        .chk (.eqN r0 r0) <|
        .chk (.eqN r1 r1) <|
        .call false 25 [(g vs 31), (g vs 69)] [] [] .one fun l7 _ =>
        .pure [] .not [(g l7 0)] fun v8 =>
        .chk (.eqN r0 r0) <|
        .chk (.eqV v8 v8) <|
        .chk (.eqV v8 v8) <|
        .pure [] .len [(g vs 32)] fun v9 =>
        .chk (.eqN r1 r1) <|
        .chk (.eqV v8 v8) <|
        .chk (.eqV v8 v8) <|
        .pure [] .len [(g vs 70)] fun v10 =>
        .chk (.eqV v8 v8) <|
        .chk (.eqV v8 v8) <|
        .pure [] (.bin .neq .int) [v9, v10] fun v11 =>
        .chk (.eqV v8 v8) <|
        .pure [] .pick [v8, (.bool true), v11] fun v12 =>
        .chk (.eqN r0 r0) <|
        .chk (.eqV v12 v12) <|
        .chk (.eqN r1 r1) <|
        .chk (.eqV v12 v12) <|
        .chk (.eqV v12 v12) <|
        .chk (.eqV v12 v12) <|
        .pure [] (.bin .neq .int) [(g vs 33), (g vs 71)] fun v13 =>
        .chk (.eqV v12 v12) <|
        .pure [] .pick [v12, (.bool true), v13] fun v14 =>
        .chk (.eqN r0 r0) <|
        .chk (.eqV v14 v14) <|
        .chk (.eqN r1 r1) <|
        .chk (.eqV v14 v14) <|
        .chk (.eqV v14 v14) <|
        .chk (.eqV v14 v14) <|
        .pure [] (.bin .neq .int) [(g vs 34), (g vs 72)] fun v15 =>
        .chk (.eqV v14 v14) <|
        .pure [] .pick [v14, (.bool true), v15] fun v16 =>
        .chk (.eqN r0 r0) <|
        .chk (.eqV v16 v16) <|
        .chk (.eqN r1 r1) <|
        .chk (.eqV v16 v16) <|
        .chk (.eqV v16 v16) <|
        .chk (.eqV v16 v16) <|
        .pure [] (.bin .neq .int) [(g vs 35), (g vs 73)] fun v17 =>
        .chk (.eqV v16 v16) <|
        .pure [] .pick [v16, (.bool true), v17] fun v18 =>
        .chk (.eqN r0 r0) <|
        .chk (.eqV v18 v18) <|
        .chk (.eqN r1 r1) <|
        .chk (.eqV v18 v18) <|
        .chk (.eqV v18 v18) <|
        .chk (.eqV v18 v18) <|
        .pure [] (.bin .neq .int) [(g vs 36), (g vs 74)] fun v19 =>
        .chk (.eqV v18 v18) <|
        .pure [] .pick [v18, (.bool true), v19] fun v20 =>
        .chk (.eqN r0 r0) <|
        .chk (.eqV v20 v20) <|
        .chk (.eqN r1 r1) <|
        .chk (.eqV v20 v20) <|
        .chk (.eqV v20 v20) <|
        .chk (.eqV v20 v20) <|
        .pure [] (.bin .neq .int) [(g vs 37), (g vs 75)] fun v21 =>
        .chk (.eqV v20 v20) <|
        .pure [] .pick [v20, (.bool true), v21] fun v22 =>
        .br v22 (
          .ret (.bool false) []) (
          .loop 79 4 [(.int .i64 0)] fun C79 l23 =>
            .chk (.eqN r0 r0) <|
            .pure [] .len [(g vs 0)] fun v24 =>
            .pure [] (.bin .lss .int) [(g l23 0), v24] fun v25 =>
            .br v25 (
              .chk (.eqN r0 r0) <|
              .pure [] (.idx 12) [(g vs 0), (g l23 0)] fun v26 =>
              .load [] v26 12 fun l27 =>
              .chk (.eqN r1 r1) <|
              .pure [] (.idx 12) [(g vs 38), (g l23 0)] fun v28 =>
              .load [] v28 12 fun l29 =>
              .raw [] (.eqv .neq 40 false) [(.agg #[(g l27 0), (g l27 1), (g l27 2), (g l27 3), (g l27 4), (g l27 5), (g l27 6), (g l27 7), (g l27 8), (g l27 9), (g l27 10), (g l27 11)]), (.agg #[(g l29 0), (g l29 1), (g l29 2), (g l29 3), (g l29 4), (g l29 5), (g l29 6), (g l29 7), (g l29 8), (g l29 9), (g l29 10), (g l29 11)])] fun v30 =>
              .br v30 (
                .ret (.bool false) []) (
                .pure [] (.bin .add .int) [(g l23 0), (.int .i64 1)] fun v31 =>
                .cont 79 C79 [v31] [E [(.pointer (some ⟨r0, 0, none⟩))], E [(.pointer (some ⟨r1, 0, none⟩))], E [(.pointer (some ⟨r0, 0, none⟩)), (g vs 0), (g vs 1), (g vs 2), (g vs 3), (g vs 4), (g vs 5), (g vs 6), (g vs 7), (g vs 8), (g vs 9), (g vs 10), (g vs 11), (g vs 12), (g vs 13), (g vs 14), (g vs 15), (g vs 16), (g vs 17), (g vs 18), (g vs 19), (g vs 20), (g vs 21), (g vs 22), (g vs 23), (g vs 24), (g vs 25), (g vs 26), (g vs 27), (g vs 28), (g vs 29), (g vs 30), (g vs 31), (g vs 32), (g vs 33), (g vs 34), (g vs 35), (g vs 36), (g vs 37)], E [(.pointer (some ⟨r1, 0, none⟩)), (g vs 38), (g vs 39), (g vs 40), (g vs 41), (g vs 42), (g vs 43), (g vs 44), (g vs 45), (g vs 46), (g vs 47), (g vs 48), (g vs 49), (g vs 50), (g vs 51), (g vs 52), (g vs 53), (g vs 54), (g vs 55), (g vs 56), (g vs 57), (g vs 58), (g vs 59), (g vs 60), (g vs 61), (g vs 62), (g vs 63), (g vs 64), (g vs 65), (g vs 66), (g vs 67), (g vs 68), (g vs 69), (g vs 70), (g vs 71), (g vs 72), (g vs 73), (g vs 74), (g vs 75)]])) (
              .loop 86 9 [(.int .i64 0)] fun C86 l32 =>
                .chk (.eqN r0 r0) <|
                .pure [] .len [(g vs 32)] fun v33 =>
                .pure [] (.bin .lss .int) [(g l32 0), v33] fun v34 =>
                .br v34 (
                  .chk (.eqN r0 r0) <|
                  .pure [] (.idx 2) [(g vs 32), (g l32 0)] fun v35 =>
                  .load [] v35 2 fun l36 =>
                  .chk (.eqN r1 r1) <|
                  .pure [] (.idx 2) [(g vs 70), (g l32 0)] fun v37 =>
                  .load [] v37 2 fun l38 =>
                  .raw [] (.eqv .neq 89 false) [(.agg #[(g l36 0), (g l36 1)]), (.agg #[(g l38 0), (g l38 1)])] fun v39 =>
                  .br v39 (
                    .ret (.bool false) []) (
                    .pure [] (.bin .add .int) [(g l32 0), (.int .i64 1)] fun v40 =>
                    .cont 86 C86 [v40] [E [(.pointer (some ⟨r0, 0, none⟩))], E [(.pointer (some ⟨r1, 0, none⟩))], E [(.pointer (some ⟨r0, 0, none⟩)), (g vs 0), (g vs 1), (g vs 2), (g vs 3), (g vs 4), (g vs 5), (g vs 6), (g vs 7), (g vs 8), (g vs 9), (g vs 10), (g vs 11), (g vs 12), (g vs 13), (g vs 14), (g vs 15), (g vs 16), (g vs 17), (g vs 18), (g vs 19), (g vs 20), (g vs 21), (g vs 22), (g vs 23), (g vs 24), (g vs 25), (g vs 26), (g vs 27), (g vs 28), (g vs 29), (g vs 30), (g vs 31), (g vs 32), (g vs 33), (g vs 34), (g vs 35), (g vs 36), (g vs 37)], E [(.pointer (some ⟨r1, 0, none⟩)), (g vs 38), (g vs 39), (g vs 40), (g vs 41), (g vs 42), (g vs 43), (g vs 44), (g vs 45), (g vs 46), (g vs 47), (g vs 48), (g vs 49), (g vs 50), (g vs 51), (g vs 52), (g vs 53), (g vs 54), (g vs 55), (g vs 56), (g vs 57), (g vs 58), (g vs 59), (g vs 60), (g vs 61), (g vs 62), (g vs 63), (g vs 64), (g vs 65), (g vs 66), (g vs 67), (g vs 68), (g vs 69), (g vs 70), (g vs 71), (g vs 72), (g vs 73), (g vs 74), (g vs 75)]])) (
                  .chk (.eqN r0 r0) <|
                  .chk (.eqN r1 r1) <|
                  .newbox fun r2 =>
                  .newbox fun r3 =>
                  .chk (.eqN r2 r2) <|
                  .chk (.eqN r3 r3) <|
                  .chk (.eqN r2 r2) <|
                  .chk (.eqN r3 r3) <|
                  .pure [] (.bin .neq .int) [(g vs 1), (g vs 39)] fun v41 =>
                  .chk (.eqN r2 r2) <|
                  .chk (.eqV v41 v41) <|
                  .chk (.eqN r3 r3) <|
                  .chk (.eqV v41 v41) <|
                  .chk (.eqV v41 v41) <|
                  .chk (.eqV v41 v41) <|
                  .raw [(v41, false)] (.eqv .neq 24 false) [(.agg #[(g vs 2), (g vs 3), (g vs 4), (g vs 5)]), (.agg #[(g vs 40), (g vs 41), (g vs 42), (g vs 43)])] fun v42 =>
                  .chk (.eqV v41 v41) <|
                  .pure [] .pick [v41, (.bool true), v42] fun v43 =>
                  .chk (.eqN r2 r2) <|
                  .chk (.eqV v43 v43) <|
                  .chk (.eqN r3 r3) <|
                  .chk (.eqV v43 v43) <|
                  .chk (.eqV v43 v43) <|
                  .chk (.eqV v43 v43) <|
                  .pure [] (.bin .neq .bool) [(g vs 10), (g vs 48)] fun v44 =>
                  .chk (.eqV v43 v43) <|
                  .pure [] .pick [v43, (.bool true), v44] fun v45 =>
                  .chk (.eqN r2 r2) <|
                  .chk (.eqV v45 v45) <|
                  .chk (.eqN r3 r3) <|
                  .chk (.eqV v45 v45) <|
                  .chk (.eqV v45 v45) <|
                  .chk (.eqV v45 v45) <|
                  .pure [] (.bin .neq .bool) [(g vs 11), (g vs 49)] fun v46 =>
                  .chk (.eqV v45 v45) <|
                  .pure [] .pick [v45, (.bool true), v46] fun v47 =>
                  .chk (.eqN r2 r2) <|
                  .chk (.eqV v47 v47) <|
                  .chk (.eqN r3 r3) <|
                  .chk (.eqV v47 v47) <|
                  .chk (.eqV v47 v47) <|
                  .chk (.eqV v47 v47) <|
                  .pure [] (.bin .neq .bool) [(g vs 12), (g vs 50)] fun v48 =>
                  .chk (.eqV v47 v47) <|
                  .pure [] .pick [v47, (.bool true), v48] fun v49 =>
                  .chk (.eqN r2 r2) <|
                  .chk (.eqV v49 v49) <|
                  .chk (.eqN r3 r3) <|
                  .chk (.eqV v49 v49) <|
                  .chk (.eqV v49 v49) <|
                  .chk (.eqV v49 v49) <|
                  .pure [] (.bin .neq .int) [(g vs 13), (g vs 51)] fun v50 =>
                  .chk (.eqV v49 v49) <|
                  .pure [] .pick [v49, (.bool true), v50] fun v51 =>
                  .chk (.eqN r2 r2) <|
                  .chk (.eqV v51 v51) <|
                  .chk (.eqN r3 r3) <|
                  .chk (.eqV v51 v51) <|
                  .chk (.eqV v51 v51) <|
                  .chk (.eqV v51 v51) <|
                  .pure [] (.bin .neq .int) [(g vs 14), (g vs 52)] fun v52 =>
                  .chk (.eqV v51 v51) <|
                  .pure [] .pick [v51, (.bool true), v52] fun v53 =>
                  .br v53 (
                    .ret (.bool false) []) (
                    .chk (.eqN r2 r2) <|
                    .chk (.eqN r3 r3) <|
                    .call false 35 [(.agg #[(g vs 1), (g vs 2), (g vs 3), (g vs 4), (g vs 5), (g vs 6), (g vs 7), (g vs 8), (g vs 9), (g vs 10), (g vs 11), (g vs 12), (g vs 13), (g vs 14)])] [] [] (.agg 4) fun l54 _ =>
                    .call false 35 [(.agg #[(g vs 39), (g vs 40), (g vs 41), (g vs 42), (g vs 43), (g vs 44), (g vs 45), (g vs 46), (g vs 47), (g vs 48), (g vs 49), (g vs 50), (g vs 51), (g vs 52)])] [] [] (.agg 4) fun l55 _ =>
                    .newbox fun r4 =>
                    .newbox fun r5 =>
                    .chk (.eqN r4 r4) <|
                    .chk (.eqN r5 r5) <|
                    .chk (.eqN r4 r4) <|
                    .chk (.eqN r5 r5) <|
                    .call false 25 [(g l54 0), (g l55 0)] [] [] .one fun l56 _ =>
                    .pure [] .not [(g l56 0)] fun v57 =>
                    .br v57 (
                      .ret (.bool false) []) (
                      .chk (.eqN r4 r4) <|
                      .chk (.eqN r5 r5) <|
                      .call false 25 [(g l54 1), (g l55 1)] [] [] .one fun l58 _ =>
                      .pure [] .not [(g l58 0)] fun v59 =>
                      .br v59 (
                        .ret (.bool false) []) (
                        .chk (.eqN r4 r4) <|
                        .chk (.eqN r5 r5) <|
                        .call false 25 [(g l54 2), (g l55 2)] [] [] .one fun l60 _ =>
                        .pure [] .not [(g l60 0)] fun v61 =>
                        .br v61 (
                          .ret (.bool false) []) (
                          .chk (.eqN r4 r4) <|
                          .chk (.eqN r5 r5) <|
                          .call false 25 [(g l54 3), (g l55 3)] [] [] .one fun l62 _ =>
                          .pure [] .not [(g l62 0)] fun v63 =>
                          .br v63 (
                            .ret (.bool false) []) (
                            .chk (.eqN r0 r0) <|
                            .chk (.eqN r1 r1) <|
                            .newbox fun r6 =>
                            .newbox fun r7 =>
                            .chk (.eqN r6 r6) <|
                            .chk (.eqN r7 r7) <|
                            .chk (.eqN r6 r6) <|
                            .chk (.eqN r7 r7) <|
                            .pure [] (.bin .neq .int) [(g vs 15), (g vs 53)] fun v64 =>
                            .chk (.eqN r6 r6) <|
                            .chk (.eqV v64 v64) <|
                            .chk (.eqN r7 r7) <|
                            .chk (.eqV v64 v64) <|
                            .chk (.eqV v64 v64) <|
                            .chk (.eqV v64 v64) <|
                            .raw [(v64, false)] (.eqv .neq 24 false) [(.agg #[(g vs 16), (g vs 17), (g vs 18), (g vs 19)]), (.agg #[(g vs 54), (g vs 55), (g vs 56), (g vs 57)])] fun v65 =>
                            .chk (.eqV v64 v64) <|
                            .pure [] .pick [v64, (.bool true), v65] fun v66 =>
                            .chk (.eqN r6 r6) <|
                            .chk (.eqV v66 v66) <|
                            .chk (.eqN r7 r7) <|
                            .chk (.eqV v66 v66) <|
                            .chk (.eqV v66 v66) <|
                            .chk (.eqV v66 v66) <|
                            .pure [] (.bin .neq .bool) [(g vs 24), (g vs 62)] fun v67 =>
                            .chk (.eqV v66 v66) <|
                            .pure [] .pick [v66, (.bool true), v67] fun v68 =>
                            .chk (.eqN r6 r6) <|
                            .chk (.eqV v68 v68) <|
                            .chk (.eqN r7 r7) <|
                            .chk (.eqV v68 v68) <|
                            .chk (.eqV v68 v68) <|
                            .chk (.eqV v68 v68) <|
                            .pure [] (.bin .neq .bool) [(g vs 25), (g vs 63)] fun v69 =>
                            .chk (.eqV v68 v68) <|
                            .pure [] .pick [v68, (.bool true), v69] fun v70 =>
                            .chk (.eqN r6 r6) <|
                            .chk (.eqV v70 v70) <|
                            .chk (.eqN r7 r7) <|
                            .chk (.eqV v70 v70) <|
                            .chk (.eqV v70 v70) <|
                            .chk (.eqV v70 v70) <|
                            .pure [] (.bin .neq .bool) [(g vs 26), (g vs 64)] fun v71 =>
                            .chk (.eqV v70 v70) <|
                            .pure [] .pick [v70, (.bool true), v71] fun v72 =>
                            .chk (.eqN r6 r6) <|
                            .chk (.eqV v72 v72) <|
                            .chk (.eqN r7 r7) <|
                            .chk (.eqV v72 v72) <|
                            .chk (.eqV v72 v72) <|
                            .chk (.eqV v72 v72) <|
                            .pure [] (.bin .neq .int) [(g vs 27), (g vs 65)] fun v73 =>
                            .chk (.eqV v72 v72) <|
                            .pure [] .pick [v72, (.bool true), v73] fun v74 =>
                            .chk (.eqN r6 r6) <|
                            .chk (.eqV v74 v74) <|
                            .chk (.eqN r7 r7) <|
                            .chk (.eqV v74 v74) <|
                            .chk (.eqV v74 v74) <|
                            .chk (.eqV v74 v74) <|
                            .pure [] (.bin .neq .int) [(g vs 28), (g vs 66)] fun v75 =>
                            .chk (.eqV v74 v74) <|
                            .pure [] .pick [v74, (.bool true), v75] fun v76 =>
                            .br v76 (
                              .ret (.bool false) []) (
                              .chk (.eqN r6 r6) <|
                              .chk (.eqN r7 r7) <|
                              .call false 35 [(.agg #[(g vs 15), (g vs 16), (g vs 17), (g vs 18), (g vs 19), (g vs 20), (g vs 21), (g vs 22), (g vs 23), (g vs 24), (g vs 25), (g vs 26), (g vs 27), (g vs 28)])] [] [] (.agg 4) fun l77 _ =>
                              .call false 35 [(.agg #[(g vs 53), (g vs 54), (g vs 55), (g vs 56), (g vs 57), (g vs 58), (g vs 59), (g vs 60), (g vs 61), (g vs 62), (g vs 63), (g vs 64), (g vs 65), (g vs 66)])] [] [] (.agg 4) fun l78 _ =>
                              .newbox fun r8 =>
                              .newbox fun r9 =>
                              .chk (.eqN r8 r8) <|
                              .chk (.eqN r9 r9) <|
                              .chk (.eqN r8 r8) <|
                              .chk (.eqN r9 r9) <|
                              .call false 25 [(g l77 0), (g l78 0)] [] [] .one fun l79 _ =>
                              .pure [] .not [(g l79 0)] fun v80 =>
                              .br v80 (
                                .ret (.bool false) []) (
                                .chk (.eqN r8 r8) <|
                                .chk (.eqN r9 r9) <|
                                .call false 25 [(g l77 1), (g l78 1)] [] [] .one fun l81 _ =>
                                .pure [] .not [(g l81 0)] fun v82 =>
                                .br v82 (
                                  .ret (.bool false) []) (
                                  .chk (.eqN r8 r8) <|
                                  .chk (.eqN r9 r9) <|
                                  .call false 25 [(g l77 2), (g l78 2)] [] [] .one fun l83 _ =>
                                  .pure [] .not [(g l83 0)] fun v84 =>
                                  .br v84 (
                                    .ret (.bool false) []) (
                                    .chk (.eqN r8 r8) <|
                                    .chk (.eqN r9 r9) <|
                                    .call false 25 [(g l77 3), (g l78 3)] [] [] .one fun l85 _ =>
                                    .pure [] .not [(g l85 0)] fun v86 =>
                                    .br v86 (
                                      .ret (.bool false) []) (
                                      .ret (.bool true) []))))))))))))))))
theorem T_zeitnotref15_Same_eq (vs : List Value) : sxFun PP Tryz.f14 (mkOpts okL [(43, [5, 6, 7, 8])] [(14, .unroll 3), (21, .unroll 5), (4, .inv [5] [2, 3] [(2, []), (3, [])]), (9, .inv [6] [2, 3] [(2, []), (3, [])])] []) vs = T_zeitnotref15_Same vs := by kernel_rfl
theorem run_zeitnotref15_Same {args vs : List Value} (ha : entryArgs PP Tryz.f14 args = some vs) (ho : Ones vs) {H : Heap} {O : Own} {Q : Value → Heap → Own → Prop} (h : (T_zeitnotref15_Same vs).den PP Q H O) : Triple PP F_zeitnotref15_Same args H O Q :=
  triple_run mixed (mkOpts_ok okL_ok _ _ _) Tryz.func14 T_zeitnotref15_Same_eq ha ho h

end Go.Proofs.YtjaegdkkiefchaaGreatDoor
