/- Pieces of the examples' run, each reckoned by itself. -/
import Derived.Test.YtpcpmblfhlcmaaaGreatDoorA1
namespace Go.Proofs.YtpcpmblfhlcmaaaGreatDoor
open Go Go.Sx
set_option maxRecDepth 100000
set_option maxHeartbeats 1000000
def Hz : (Nat → Nat) → List (Nat × Option Bx) := fun v => [(255352, some ⟨(v 0), 123, wide az (v 9) 14⟩),
 (284887, some ⟨(v 1), 173, wide c5 (v 10) 12⟩),
 (284975, some ⟨(v 2), 3, wide c6 (v 11) 1⟩),
 (284995, some ⟨(v 3), 3, wide [q 1, q 20, q 19, q 18, q 17, q 16, q 15] (v 12) 1⟩),
 (285073, some ⟨(v 4), 3, wide c8 (v 13) 1⟩),
 (285093, some ⟨(v 5), 3, wide [q 21, q 40, q 39, q 38, q 37, q 36, q 35] (v 14) 1⟩),
 (255223, some ⟨(v 6), 254, c3⟩),
 (255217, some ⟨(v 7), 199, [bt, .sl 255223 (v 6) 0 400 (400), q 38]⟩),
 (255237, some ⟨(v 8), 132, [q 1, q 0, q 20, q 60, q 0, q 9, .sl 255352 (v 0) 0 2 ((v 9) + 2), .sl 284887 (v 1) 0 40 ((v 10) + 40), q 1, q 0, q 0, q 0, q 0, .sl 284975 (v 2) 0 13 ((v 11) + 13), .sl 284995 (v 3) 0 7 ((v 12) + 7), zs, zs, bf, bf, bt, q 0, q 0, q 1, q 0, q 0, q 0, q 0, .sl 285073 (v 4) 0 13 ((v 13) + 13), .sl 285093 (v 5) 0 7 ((v 14) + 7), zs, zs, bf, bf, bt, q 0, q 0, zs, zs, zs, zs, q 1, q 0, q 9, q (-1), q 0, .p 255217 (v 7) 0, bf, bf, q 0]⟩)]
def Ir : (Nat → Nat) → List (Nat × Nat × Nat) := fun v => [(255352, 28, (v 9)), (284887, 480, (v 10)), (284975, 13, (v 11)), (284995, 7, (v 12)), (285073, 13, (v 13)), (285093, 7, (v 14))]
def pc103 : Pc where
 f := 22
 locs := [.r 255352, .r 284887, .r 284975, .r 284995, .r 285073, .r 285093, .r 255223, .r 255217, .r 255237, .c 255352, .c 284887, .c 284975, .c 284995, .c 285073, .c 285093]
 args := fun v => [.at (.p 255237 (v 8) 0)]
 mem := fun v => Hz v
 next := 289188
 gr := fun v => Ir v
 us := [143, 144]
 ns := [293125, 255352, 284887, 284975, 284995, 285073, 285093, 255223, 255217, 255237]
 sv := fun _ u => .s (.agg [q 0, q 2, .sl 293125 (u 0) 0 4 ((u 1) + 4)])
 mem' := fun v u => [(293125, some ⟨(u 0), 77, wide c9 (u 1) 3⟩)] ++ Hz v
 next' := 293132
 gr' := fun v u => [(293125, 12, (u 1))] ++ Ir v
theorem zV : pc103.Ok cfgN aD 60 500 15 9000 := ⟨fun v k => by kernel_rfl⟩
def Hy : (Nat → Nat) → List (Nat × Option Bx) := fun v => [(255352, some ⟨(v 0), 123, wide az (v 9) 14⟩),
 (284887, some ⟨(v 1), 173, wide c5 (v 10) 12⟩),
 (284975, some ⟨(v 2), 3, wide c6 (v 11) 1⟩),
 (284995, some ⟨(v 3), 3, wide [q 1, q 20, q 19, q 18, q 17, q 16, q 15] (v 12) 1⟩),
 (285073, some ⟨(v 4), 3, wide c8 (v 13) 1⟩),
 (285093, some ⟨(v 5), 3, wide [q 21, q 40, q 39, q 38, q 37, q 36, q 35] (v 14) 1⟩),
 (255223, some ⟨(v 6), 254, c3⟩),
 (255217, some ⟨(v 7), 199, [bt, .sl 255223 (v 6) 0 400 (400), q 38]⟩),
 (255237, some ⟨(v 8), 132, [q 1, q 0, q 20, q 60, q 0, q 9, .sl 255352 (v 0) 0 2 ((v 9) + 2), .sl 284887 (v 1) 0 40 ((v 10) + 40), q 1, q 0, q 0, q 0, q 0, .sl 284975 (v 2) 0 13 ((v 11) + 13), .sl 284995 (v 3) 0 7 ((v 12) + 7), zs, zs, bf, bf, bt, q 0, q 0, q 1, q 0, q 0, q 0, q 0, .sl 285073 (v 4) 0 13 ((v 13) + 13), .sl 285093 (v 5) 0 7 ((v 14) + 7), zs, zs, bf, bf, bt, q 0, q 0, zs, zs, zs, zs, q 1, q 0, q 9, q (-1), q 0, .p 255217 (v 7) 0, bf, bf, q 0]⟩)]
def Iq : (Nat → Nat) → List (Nat × Nat × Nat) := fun v => [(255352, 28, (v 9)), (284887, 480, (v 10)), (284975, 13, (v 11)), (284995, 7, (v 12)), (285073, 13, (v 13)), (285093, 7, (v 14))]
def pc104 : Pc where
 f := 24
 locs := [.r 255352, .r 284887, .r 284975, .r 284995, .r 285073, .r 285093, .r 255223, .r 255217, .r 255237, .c 255352, .c 284887, .c 284975, .c 284995, .c 285073, .c 285093]
 args := fun v => [.at (.p 255237 (v 8) 0)]
 mem := fun v => Hy v
 next := 293161
 gr := fun v => Iq v
 us := [4, 5, 8, 9, 11, 12, 15, 16, 18, 19]
 ns := [293205, 293293, 293313, 293391, 293411, 255352, 284887, 284975, 284995, 285073, 285093, 255223, 255217, 255237]
 sv := fun _ u => .s (.agg [.sl 293205 (u 0) 0 40 ((u 1) + 40), q 1, q 0, q 0, q 0, q 0, .sl 293293 (u 2) 0 13 ((u 3) + 13), .sl 293313 (u 4) 0 7 ((u 5) + 7), zs, zs, bf, bf, bt, q 0, q 0, q 1, q 0, q 0, q 0, q 0, .sl 293391 (u 6) 0 13 ((u 7) + 13), .sl 293411 (u 8) 0 7 ((u 9) + 7), zs, zs, bf, bf, bt, q 0, q 0, zs, zs, zs, zs, q 1, q 0, q 9, q (-1), q 0])
 mem' := fun v u => [(293205, some ⟨(u 0), 173, wide c5 (u 1) 12⟩),
 (293293, some ⟨(u 2), 3, wide c6 (u 3) 1⟩),
 (293313, some ⟨(u 4), 3, wide [q 1, q 20, q 19, q 18, q 17, q 16, q 15] (u 5) 1⟩),
 (293391, some ⟨(u 6), 3, wide c8 (u 7) 1⟩),
 (293411, some ⟨(u 8), 3, wide [q 21, q 40, q 39, q 38, q 37, q 36, q 35] (u 9) 1⟩)] ++ Hy v
 next' := 293452
 gr' := fun v u => [(293205, 480, (u 1)), (293293, 13, (u 3)), (293313, 7, (u 5)), (293391, 13, (u 7)), (293411, 7, (u 9))] ++ Iq v
theorem zU : pc104.Ok cfgN aD 60 500 15 9000 := ⟨fun v k => by kernel_rfl⟩
def Hw : (Nat → Nat) → List (Nat × Option Bx) := fun v => [(263421, some ⟨(v 0), 123, wide az (v 7) 14⟩),
 (293205, some ⟨(v 1), 173, wide c5 (v 8) 12⟩),
 (293293, some ⟨(v 2), 3, wide c6 (v 9) 1⟩),
 (293313, some ⟨(v 3), 3, wide [q 1, q 20, q 19, q 18, q 17, q 16, q 15] (v 10) 1⟩),
 (293391, some ⟨(v 4), 3, wide c8 (v 11) 1⟩),
 (293411, some ⟨(v 5), 3, wide [q 21, q 40, q 39, q 38, q 37, q 36, q 35] (v 12) 1⟩),
 (293125, some ⟨(v 6), 77, wide c9 (v 13) 3⟩)]
def Ip : (Nat → Nat) → List (Nat × Nat × Nat) := fun v => [(263421, 28, (v 7)), (293205, 480, (v 8)), (293293, 13, (v 9)), (293313, 7, (v 10)), (293391, 13, (v 11)), (293411, 7, (v 12)), (293125, 12, (v 13))]
def pc105 : Pc where
 f := 23
 locs := [.r 263421, .r 293205, .r 293293, .r 293313, .r 293391, .r 293411, .r 293125, .c 263421, .c 293205, .c 293293, .c 293313, .c 293391, .c 293411, .c 293125]
 args := fun v => [.at (q 1), .at (.sl 263421 (v 0) 0 2 ((v 7) + 2)), .agg [.sl 293205 (v 1) 0 40 ((v 8) + 40), q 1, q 0, q 0, q 0, q 0, .sl 293293 (v 2) 0 13 ((v 9) + 13), .sl 293313 (v 3) 0 7 ((v 10) + 7), zs, zs, bf, bf, bt, q 0, q 0, q 1, q 0, q 0, q 0, q 0, .sl 293391 (v 4) 0 13 ((v 11) + 13), .sl 293411 (v 5) 0 7 ((v 12) + 7), zs, zs, bf, bf, bt, q 0, q 0, zs, zs, zs, zs, q 1, q 0, q 9, q (-1), q 0], .agg [q 0, q 2, .sl 293125 (v 6) 0 4 ((v 13) + 4)], .at (q 0)]
 mem := fun v => Hw v
 next := 293452
 gr := fun v => Ip v
 us := []
 ns := [263421, 293205, 293293, 293313, 293391, 293411, 293125]
 sv := fun _ _ => .tup [.agg [q 1, q 0, q 0], .at (q 0)]
 mem' := fun v _ => Hw v
 next' := 293495
 gr' := fun v _ => Ip v
theorem zT : pc105.Ok cfgN aD 60 500 15 9000 := ⟨fun v k => by kernel_rfl⟩
def GQ : (Nat → Nat) → List (Nat × Option Bx) := fun v => [(255352, some ⟨(v 0), 123, wide az (v 9) 14⟩),
 (284887, some ⟨(v 1), 173, wide c5 (v 10) 12⟩),
 (284975, some ⟨(v 2), 3, wide c6 (v 11) 1⟩),
 (284995, some ⟨(v 3), 3, wide [q 1, q 20, q 19, q 18, q 17, q 16, q 15] (v 12) 1⟩),
 (285073, some ⟨(v 4), 3, wide c8 (v 13) 1⟩),
 (285093, some ⟨(v 5), 3, wide [q 21, q 40, q 39, q 38, q 37, q 36, q 35] (v 14) 1⟩),
 (255223, some ⟨(v 6), 254, c3⟩),
 (255217, some ⟨(v 7), 199, [bt, .sl 255223 (v 6) 0 400 (400), q 38]⟩),
 (255237, some ⟨(v 8), 132, [q 1, q 0, q 20, q 60, q 0, q 9, .sl 255352 (v 0) 0 2 ((v 9) + 2), .sl 284887 (v 1) 0 40 ((v 10) + 40), q 1, q 0, q 0, q 0, q 0, .sl 284975 (v 2) 0 13 ((v 11) + 13), .sl 284995 (v 3) 0 7 ((v 12) + 7), zs, zs, bf, bf, bt, q 0, q 0, q 1, q 0, q 0, q 0, q 0, .sl 285073 (v 4) 0 13 ((v 13) + 13), .sl 285093 (v 5) 0 7 ((v 14) + 7), zs, zs, bf, bf, bt, q 0, q 0, zs, zs, zs, zs, q 1, q 0, q 9, q (-1), q 0, .p 255217 (v 7) 0, bf, bf, q 0]⟩)]
def HL : (Nat → Nat) → List (Nat × Nat × Nat) := fun v => [(255352, 28, (v 9)), (284887, 480, (v 10)), (284975, 13, (v 11)), (284995, 7, (v 12)), (285073, 13, (v 13)), (285093, 7, (v 14))]
def pc901 : Pc where
 f := 22
 locs := [.r 255352, .r 284887, .r 284975, .r 284995, .r 285073, .r 285093, .r 255223, .r 255217, .r 255237, .c 255352, .c 284887, .c 284975, .c 284995, .c 285073, .c 285093]
 args := fun v => [.at (.p 255237 (v 8) 0)]
 mem := fun v => GQ v
 next := 293530
 gr := fun v => HL v
 us := [143, 144]
 ns := [297467, 255352, 284887, 284975, 284995, 285073, 285093, 255223, 255217, 255237]
 sv := fun _ u => .s (.agg [q 0, q 2, .sl 297467 (u 0) 0 4 ((u 1) + 4)])
 mem' := fun v u => [(297467, some ⟨(u 0), 77, wide c9 (u 1) 3⟩)] ++ GQ v
 next' := 297474
 gr' := fun v u => [(297467, 12, (u 1))] ++ HL v
theorem zk : pc901.Ok cfgN aD 60 500 15 9000 := ⟨fun v k => by kernel_rfl⟩
def GP : (Nat → Nat) → List (Nat × Option Bx) := fun v => [(255352, some ⟨(v 0), 123, wide az (v 9) 14⟩),
 (284887, some ⟨(v 1), 173, wide c5 (v 10) 12⟩),
 (284975, some ⟨(v 2), 3, wide c6 (v 11) 1⟩),
 (284995, some ⟨(v 3), 3, wide [q 1, q 20, q 19, q 18, q 17, q 16, q 15] (v 12) 1⟩),
 (285073, some ⟨(v 4), 3, wide c8 (v 13) 1⟩),
 (285093, some ⟨(v 5), 3, wide [q 21, q 40, q 39, q 38, q 37, q 36, q 35] (v 14) 1⟩),
 (255223, some ⟨(v 6), 254, c3⟩),
 (255217, some ⟨(v 7), 199, [bt, .sl 255223 (v 6) 0 400 (400), q 38]⟩),
 (255237, some ⟨(v 8), 132, [q 1, q 0, q 20, q 60, q 0, q 9, .sl 255352 (v 0) 0 2 ((v 9) + 2), .sl 284887 (v 1) 0 40 ((v 10) + 40), q 1, q 0, q 0, q 0, q 0, .sl 284975 (v 2) 0 13 ((v 11) + 13), .sl 284995 (v 3) 0 7 ((v 12) + 7), zs, zs, bf, bf, bt, q 0, q 0, q 1, q 0, q 0, q 0, q 0, .sl 285073 (v 4) 0 13 ((v 13) + 13), .sl 285093 (v 5) 0 7 ((v 14) + 7), zs, zs, bf, bf, bt, q 0, q 0, zs, zs, zs, zs, q 1, q 0, q 10, q (-1), q 0, .p 255217 (v 7) 0, bf, bf, q 0]⟩)]
def HJ : (Nat → Nat) → List (Nat × Nat × Nat) := fun v => [(255352, 28, (v 9)), (284887, 480, (v 10)), (284975, 13, (v 11)), (284995, 7, (v 12)), (285073, 13, (v 13)), (285093, 7, (v 14))]
def pc902 : Pc where
 f := 22
 locs := [.r 255352, .r 284887, .r 284975, .r 284995, .r 285073, .r 285093, .r 255223, .r 255217, .r 255237, .c 255352, .c 284887, .c 284975, .c 284995, .c 285073, .c 285093]
 args := fun v => [.at (.p 255237 (v 8) 0)]
 mem := fun v => GP v
 next := 297616
 gr := fun v => HJ v
 us := []
 ns := [255352, 284887, 284975, 284995, 285073, 285093, 255223, 255217, 255237]
 sv := fun _ _ => .s (.agg [q 0, q 0, zs])
 mem' := fun v _ => GP v
 next' := 297880
 gr' := fun v _ => HJ v
theorem zj : pc902.Ok cfgN aD 60 500 15 9000 := ⟨fun v k => by kernel_rfl⟩
def GO : (Nat → Nat) → List (Nat × Option Bx) := fun v => [(255352, some ⟨(v 0), 123, wide az (v 9) 14⟩),
 (300825, some ⟨(v 1), 173, wide c5 (v 10) 12⟩),
 (300913, some ⟨(v 2), 3, wide c6 (v 11) 1⟩),
 (300933, some ⟨(v 3), 3, wide [q 1, q 20, q 19, q 18, q 17, q 16, q 15] (v 12) 1⟩),
 (301011, some ⟨(v 4), 3, wide c8 (v 13) 1⟩),
 (301031, some ⟨(v 5), 3, wide [q 21, q 40, q 39, q 38, q 37, q 36, q 35] (v 14) 1⟩),
 (255223, some ⟨(v 6), 254, c3⟩),
 (255217, some ⟨(v 7), 199, [bt, .sl 255223 (v 6) 0 400 (400), q 38]⟩),
 (255237, some ⟨(v 8), 132, [q 1, q 0, q 20, q 60, q 0, q 9, .sl 255352 (v 0) 0 2 ((v 9) + 2), .sl 300825 (v 1) 0 40 ((v 10) + 40), q 1, q 0, q 0, q 0, q 0, .sl 300913 (v 2) 0 13 ((v 11) + 13), .sl 300933 (v 3) 0 7 ((v 12) + 7), zs, zs, bf, bf, bt, q 0, q 0, q 1, q 0, q 0, q 0, q 0, .sl 301011 (v 4) 0 13 ((v 13) + 13), .sl 301031 (v 5) 0 7 ((v 14) + 7), zs, zs, bf, bf, bt, q 0, q 0, zs, zs, zs, zs, q 2, q 1, q 1, q (-1), q 0, .p 255217 (v 7) 0, bf, bf, q 0]⟩)]
def HI : (Nat → Nat) → List (Nat × Nat × Nat) := fun v => [(255352, 28, (v 9)), (300825, 480, (v 10)), (300913, 13, (v 11)), (300933, 7, (v 12)), (301011, 13, (v 13)), (301031, 7, (v 14))]
def pc903 : Pc where
 f := 22
 locs := [.r 255352, .r 300825, .r 300913, .r 300933, .r 301011, .r 301031, .r 255223, .r 255217, .r 255237, .c 255352, .c 300825, .c 300913, .c 300933, .c 301011, .c 301031]
 args := fun v => [.at (.p 255237 (v 8) 0)]
 mem := fun v => GO v
 next := 302439
 gr := fun v => HI v
 us := []
 ns := [255352, 300825, 300913, 300933, 301011, 301031, 255223, 255217, 255237]
 sv := fun _ _ => .s (.agg [q 0, q 0, zs])
 mem' := fun v _ => GO v
 next' := 302694
 gr' := fun v _ => HI v
theorem zi : pc903.Ok cfgN aD 60 500 15 9000 := ⟨fun v k => by kernel_rfl⟩
def GN : (Nat → Nat) → List (Nat × Option Bx) := fun v => [(255352, some ⟨(v 0), 123, wide az (v 9) 14⟩),
 (303806, some ⟨(v 1), 173, wide c5 (v 10) 12⟩),
 (303894, some ⟨(v 2), 3, wide c6 (v 11) 1⟩),
 (303914, some ⟨(v 3), 3, wide [q 1, q 20, q 19, q 18, q 17, q 16, q 15] (v 12) 1⟩),
 (303992, some ⟨(v 4), 3, wide c8 (v 13) 1⟩),
 (304012, some ⟨(v 5), 3, wide [q 21, q 40, q 39, q 38, q 37, q 36, q 35] (v 14) 1⟩),
 (255223, some ⟨(v 6), 254, c3⟩),
 (255217, some ⟨(v 7), 199, [bt, .sl 255223 (v 6) 0 400 (400), q 38]⟩),
 (255237, some ⟨(v 8), 132, [q 1, q 0, q 20, q 60, q 0, q 9, .sl 255352 (v 0) 0 2 ((v 9) + 2), .sl 303806 (v 1) 0 40 ((v 10) + 40), q 1, q 0, q 0, q 0, q 0, .sl 303894 (v 2) 0 13 ((v 11) + 13), .sl 303914 (v 3) 0 7 ((v 12) + 7), zs, zs, bf, bf, bt, q 0, q 0, q 1, q 0, q 0, q 0, q 0, .sl 303992 (v 4) 0 13 ((v 13) + 13), .sl 304012 (v 5) 0 7 ((v 14) + 7), zs, zs, bf, bf, bt, q 0, q 0, zs, zs, zs, zs, q 2, q 1, q 2, q (-1), q 0, .p 255217 (v 7) 0, bf, bf, q 0]⟩)]
def HH : (Nat → Nat) → List (Nat × Nat × Nat) := fun v => [(255352, 28, (v 9)), (303806, 480, (v 10)), (303894, 13, (v 11)), (303914, 7, (v 12)), (303992, 13, (v 13)), (304012, 7, (v 14))]
def pc904 : Pc where
 f := 22
 locs := [.r 255352, .r 303806, .r 303894, .r 303914, .r 303992, .r 304012, .r 255223, .r 255217, .r 255237, .c 255352, .c 303806, .c 303894, .c 303914, .c 303992, .c 304012]
 args := fun v => [.at (.p 255237 (v 8) 0)]
 mem := fun v => GN v
 next := 304133
 gr := fun v => HH v
 us := []
 ns := [255352, 303806, 303894, 303914, 303992, 304012, 255223, 255217, 255237]
 sv := fun _ _ => .s (.agg [q 0, q 0, zs])
 mem' := fun v _ => GN v
 next' := 304388
 gr' := fun v _ => HH v
theorem zh : pc904.Ok cfgN aD 60 500 15 9000 := ⟨fun v k => by kernel_rfl⟩
def GM : (Nat → Nat) → List (Nat × Option Bx) := fun v => [(255352, some ⟨(v 0), 123, wide az (v 9) 14⟩),
 (304525, some ⟨(v 1), 173, wide c5 (v 10) 12⟩),
 (304613, some ⟨(v 2), 3, wide c6 (v 11) 1⟩),
 (304633, some ⟨(v 3), 3, wide [q 1, q 20, q 19, q 18, q 17, q 16, q 15] (v 12) 1⟩),
 (304711, some ⟨(v 4), 3, wide c8 (v 13) 1⟩),
 (304817, some ⟨(v 5), 3, wide [q 21, q 40, q 39, q 38, q 37, q 36, q 35, q 34] (v 14) 1⟩),
 (255223, some ⟨(v 6), 254, c3⟩),
 (255217, some ⟨(v 7), 199, [bt, .sl 255223 (v 6) 0 400 (400), q 38]⟩),
 (255237, some ⟨(v 8), 132, [q 1, q 0, q 20, q 60, q 0, q 9, .sl 255352 (v 0) 0 2 ((v 9) + 2), .sl 304525 (v 1) 0 40 ((v 10) + 40), q 1, q 0, q 0, q 0, q 0, .sl 304613 (v 2) 0 13 ((v 11) + 13), .sl 304633 (v 3) 0 7 ((v 12) + 7), zs, zs, bf, bf, bt, q 0, q 0, q 1, q 0, q 0, q 0, q 0, .sl 304711 (v 4) 0 12 ((v 13) + 13), .sl 304817 (v 5) 0 8 ((v 14) + 8), zs, zs, bf, bf, bt, q 0, q 0, zs, zs, zs, zs, q 2, q 1, q 3, q (-1), q 0, .p 255217 (v 7) 0, bf, bf, q 0]⟩)]
def HG : (Nat → Nat) → List (Nat × Nat × Nat) := fun v => [(255352, 28, (v 9)), (304525, 480, (v 10)), (304613, 13, (v 11)), (304633, 7, (v 12)), (304711, 13, (v 13)), (304817, 8, (v 14))]
def pc905 : Pc where
 f := 22
 locs := [.r 255352, .r 304525, .r 304613, .r 304633, .r 304711, .r 304817, .r 255223, .r 255217, .r 255237, .c 255352, .c 304525, .c 304613, .c 304633, .c 304711, .c 304817]
 args := fun v => [.at (.p 255237 (v 8) 0)]
 mem := fun v => GM v
 next := 304922
 gr := fun v => HG v
 us := []
 ns := [255352, 304525, 304613, 304633, 304711, 304817, 255223, 255217, 255237]
 sv := fun _ _ => .s (.agg [q 0, q 0, zs])
 mem' := fun v _ => GM v
 next' := 305177
 gr' := fun v _ => HG v
theorem zg : pc905.Ok cfgN aD 60 500 15 9000 := ⟨fun v k => by kernel_rfl⟩
def GL : (Nat → Nat) → List (Nat × Option Bx) := fun v => [(255352, some ⟨(v 0), 123, wide az (v 9) 14⟩),
 (304525, some ⟨(v 1), 173, wide c5 (v 10) 12⟩),
 (304613, some ⟨(v 2), 3, wide c6 (v 11) 1⟩),
 (304633, some ⟨(v 3), 3, wide [q 1, q 20, q 19, q 18, q 17, q 16, q 15] (v 12) 1⟩),
 (304711, some ⟨(v 4), 3, wide c8 (v 13) 1⟩),
 (304817, some ⟨(v 5), 3, wide [q 21, q 40, q 39, q 38, q 37, q 36, q 35, q 34] (v 14) 1⟩),
 (255223, some ⟨(v 6), 254, c3⟩),
 (255217, some ⟨(v 7), 199, [bt, .sl 255223 (v 6) 0 400 (400), q 38]⟩),
 (255237, some ⟨(v 8), 132, [q 1, q 0, q 20, q 60, q 0, q 9, .sl 255352 (v 0) 0 2 ((v 9) + 2), .sl 304525 (v 1) 0 40 ((v 10) + 40), q 1, q 0, q 0, q 0, q 0, .sl 304613 (v 2) 0 13 ((v 11) + 13), .sl 304633 (v 3) 0 7 ((v 12) + 7), zs, zs, bf, bf, bt, q 0, q 0, q 1, q 0, q 0, q 0, q 0, .sl 304711 (v 4) 0 12 ((v 13) + 13), .sl 304817 (v 5) 0 8 ((v 14) + 8), zs, zs, bf, bf, bt, q 0, q 0, zs, zs, zs, zs, q 2, q 1, q 4, q (-1), q 0, .p 255217 (v 7) 0, bf, bf, q 0]⟩)]
def HF : (Nat → Nat) → List (Nat × Nat × Nat) := fun v => [(255352, 28, (v 9)), (304525, 480, (v 10)), (304613, 13, (v 11)), (304633, 7, (v 12)), (304711, 13, (v 13)), (304817, 8, (v 14))]
def pc906 : Pc where
 f := 22
 locs := [.r 255352, .r 304525, .r 304613, .r 304633, .r 304711, .r 304817, .r 255223, .r 255217, .r 255237, .c 255352, .c 304525, .c 304613, .c 304633, .c 304711, .c 304817]
 args := fun v => [.at (.p 255237 (v 8) 0)]
 mem := fun v => GL v
 next := 305288
 gr := fun v => HF v
 us := [155, 156]
 ns := [309702, 255352, 304525, 304613, 304633, 304711, 304817, 255223, 255217, 255237]
 sv := fun _ u => .s (.agg [q 1, q 2, .sl 309702 (u 0) 0 5 ((u 1) + 5)])
 mem' := fun v u => [(309702, some ⟨(u 0), 77, wide c16 (u 1) 3⟩)] ++ GL v
 next' := 309709
 gr' := fun v u => [(309702, 15, (u 1))] ++ HF v
theorem zf : pc906.Ok cfgN aD 60 500 15 9000 := ⟨fun v k => by kernel_rfl⟩
def pc106 : Pc where
 f := 25
 locs := [.r 255352, .r 284887, .r 284975, .r 284995, .r 285073, .r 285093, .r 255223, .r 255217, .r 255237, .c 255352, .c 284887, .c 284975, .c 284995, .c 285073, .c 285093]
 args := fun v => [.at (.p 255237 (v 8) 0), .agg [q 1, q 0, q 0]]
 mem := fun v => [(255352, some ⟨(v 0), 123, wide az (v 9) 14⟩),
 (284887, some ⟨(v 1), 173, wide c5 (v 10) 12⟩),
 (284975, some ⟨(v 2), 3, wide c6 (v 11) 1⟩),
 (284995, some ⟨(v 3), 3, wide [q 1, q 20, q 19, q 18, q 17, q 16, q 15] (v 12) 1⟩),
 (285073, some ⟨(v 4), 3, wide c8 (v 13) 1⟩),
 (285093, some ⟨(v 5), 3, wide [q 21, q 40, q 39, q 38, q 37, q 36, q 35] (v 14) 1⟩),
 (255223, some ⟨(v 6), 254, c3⟩),
 (255217, some ⟨(v 7), 199, [bt, .sl 255223 (v 6) 0 400 (400), q 38]⟩),
 (255237, some ⟨(v 8), 132, [q 1, q 0, q 20, q 60, q 0, q 9, .sl 255352 (v 0) 0 2 ((v 9) + 2), .sl 284887 (v 1) 0 40 ((v 10) + 40), q 1, q 0, q 0, q 0, q 0, .sl 284975 (v 2) 0 13 ((v 11) + 13), .sl 284995 (v 3) 0 7 ((v 12) + 7), zs, zs, bf, bf, bt, q 0, q 0, q 1, q 0, q 0, q 0, q 0, .sl 285073 (v 4) 0 13 ((v 13) + 13), .sl 285093 (v 5) 0 7 ((v 14) + 7), zs, zs, bf, bf, bt, q 0, q 0, zs, zs, zs, zs, q 1, q 0, q 9, q (-1), q 0, .p 255217 (v 7) 0, bf, bf, q 0]⟩)]
 next := 293505
 gr := fun v => [(255352, 28, (v 9)), (284887, 480, (v 10)), (284975, 13, (v 11)), (284995, 7, (v 12)), (285073, 13, (v 13)), (285093, 7, (v 14))]
 us := [253, 254, 257, 258, 260, 261, 264, 265, 270, 271]
 ns := [304525, 304613, 304633, 304711, 304817, 255237, 255217, 255223, 285093, 285073, 284995, 284975, 284887, 255352]
 sv := fun _ _ => .tup [.at (q 4), .at (q 0)]
 mem' := fun v u => [(304525, some ⟨(u 0), 173, wide c5 (u 1) 12⟩),
 (304613, some ⟨(u 2), 3, wide c6 (u 3) 1⟩),
 (304633, some ⟨(u 4), 3, wide [q 1, q 20, q 19, q 18, q 17, q 16, q 15] (u 5) 1⟩),
 (304711, some ⟨(u 6), 3, wide c8 (u 7) 1⟩),
 (304817, some ⟨(u 8), 3, wide [q 21, q 40, q 39, q 38, q 37, q 36, q 35, q 34] (u 9) 1⟩),
 (255237, some ⟨(v 8), 132, [q 1, q 0, q 20, q 60, q 0, q 9, .sl 255352 (v 0) 0 2 ((v 9) + 2), .sl 304525 (u 0) 0 40 ((u 1) + 40), q 1, q 0, q 0, q 0, q 0, .sl 304613 (u 2) 0 13 ((u 3) + 13), .sl 304633 (u 4) 0 7 ((u 5) + 7), zs, zs, bf, bf, bt, q 0, q 0, q 1, q 0, q 0, q 0, q 0, .sl 304711 (u 6) 0 12 ((u 7) + 13), .sl 304817 (u 8) 0 8 ((u 9) + 8), zs, zs, bf, bf, bt, q 0, q 0, zs, zs, zs, zs, q 2, q 1, q 4, q (-1), q 0, .p 255217 (v 7) 0, bf, bf, q 0]⟩),
 (255217, some ⟨(v 7), 199, [bt, .sl 255223 (v 6) 0 400 (400), q 38]⟩),
 (255223, some ⟨(v 6), 254, c3⟩),
 (285093, some ⟨(v 5), 3, wide [q 21, q 40, q 39, q 38, q 37, q 36, q 35] (v 14) 1⟩),
 (285073, some ⟨(v 4), 3, wide c8 (v 13) 1⟩),
 (284995, some ⟨(v 3), 3, wide [q 1, q 20, q 19, q 18, q 17, q 16, q 15] (v 12) 1⟩),
 (284975, some ⟨(v 2), 3, wide c6 (v 11) 1⟩),
 (284887, some ⟨(v 1), 173, wide c5 (v 10) 12⟩),
 (255352, some ⟨(v 0), 123, wide az (v 9) 14⟩)]
 next' := 309711
 gr' := fun v u => [(304525, 480, (u 1)), (304613, 13, (u 3)), (304633, 7, (u 5)), (304711, 13, (u 7)), (304817, 8, (u 9)), (285093, 7, (v 14)), (285073, 13, (v 13)), (284995, 7, (v 12)), (284975, 13, (v 11)), (284887, 480, (v 10)), (255352, 28, (v 9))]
def wq : SumG := pc901.sum.or (pc902.sum.or (pc903.sum.or (pc904.sum.or (pc905.sum.or (pc906.sum.or (aD))))))
theorem u6 {H : Heap} (hg : GlobOk dp H) : SumOkG PP cfgN.ok H wq :=
 (aj hg (ah hg) zk).or ((aj hg (ah hg) zj).or ((aj hg (ah hg) zi).or ((aj hg (ah hg) zh).or ((aj hg (ah hg) zg).or ((aj hg (ah hg) zf).or (ah hg))))))
theorem zS : pc106.Ok cfgN wq 60 500 15 9000 := ⟨fun v k => by kernel_rfl⟩
end Go.Proofs.YtpcpmblfhlcmaaaGreatDoor
