/- Pieces of the examples' run, each reckoned by itself. -/
import Derived.Test.YtpcpmblfhlcmaaaGreatDoorA1
namespace Go.Proofs.YtpcpmblfhlcmaaaGreatDoor
open Go Go.Sx
set_option maxRecDepth 100000
set_option maxHeartbeats 1000000
def m1 : (Nat → Nat) → List (Nat × Option Bx) := fun v => [(829, some ⟨(v 0), 123, az⟩),
 (802, some ⟨(v 1), 3, wide c2 (v 3) 1⟩),
 (815, some ⟨(v 2), 254, c3⟩)]
def g1 : (Nat → Nat) → List (Nat × Nat × Nat) := fun v => [(802, 20, (v 3))]
def pc1 : Pc where
 f := 14
 locs := [.r 829, .r 802, .r 815, .c 802]
 args := fun v => [.agg [q 1, q 0, q 20, q 60, q 0, q 9], .at (.sl 829 (v 0) 0 2 (2)), .agg [.sl 802 (v 1) 0 20 ((v 3) + 20), .sl 802 (v 1) 0 20 ((v 3) + 20)], .at (.sl 815 (v 2) 0 400 (400))]
 mem := fun v => m1 v
 next := 831
 gr := fun v => g1 v
 us := []
 ns := [829, 802, 815]
 sv := fun _ _ => .tup [.at (.k (.pointer none)), .at (q 2)]
 mem' := fun v _ => m1 v
 next' := 2231
 gr' := fun v _ => g1 v
theorem Fv : pc1.Ok cfgN aD 60 500 15 9000 := ⟨fun v k => by kernel_rfl⟩
def m2 : (Nat → Nat) → List (Nat × Option Bx) := fun v => [(2666, some ⟨(v 0), 123, az⟩)]
def g2 : (Nat → Nat) → List (Nat × Nat × Nat) := fun _ => []
def pc2 : Pc where
 f := 44
 locs := [.r 2666]
 args := fun v => [.at (.sl 2666 (v 0) 0 2 (2))]
 mem := fun v => m2 v
 next := 2774
 gr := fun v => g2 v
 us := [1, 2]
 ns := [2785, 2666]
 sv := fun _ u => .s (.at (.sl 2785 (u 0) 0 2 ((u 1) + 2)))
 mem' := fun v u => [(2785, some ⟨(u 0), 123, wide az (u 1) 14⟩)] ++ m2 v
 next' := 2878
 gr' := fun v u => [(2785, 28, (u 1))] ++ g2 v
theorem Ft : pc2.Ok cfgN aD 60 500 15 9000 := ⟨fun v k => by kernel_rfl⟩
def m3 : (Nat → Nat) → List (Nat × Option Bx) := fun v => [(2785, some ⟨(v 0), 123, wide az (v 3) 14⟩),
 (2923, some ⟨(v 1), 3, wide c2 (v 4) 1⟩),
 (2972, some ⟨(v 2), 254, c3⟩)]
def g3 : (Nat → Nat) → List (Nat × Nat × Nat) := fun v => [(2785, 28, (v 3)), (2923, 20, (v 4))]
def pc3 : Pc where
 f := 14
 locs := [.r 2785, .r 2923, .r 2972, .c 2785, .c 2923]
 args := fun v => [.agg [q 1, q 0, q 20, q 60, q 0, q 9], .at (.sl 2785 (v 0) 0 2 ((v 3) + 2)), .agg [.sl 2923 (v 1) 0 20 ((v 4) + 20), .sl 2923 (v 1) 0 20 ((v 4) + 20)], .at (.sl 2972 (v 2) 0 400 (400))]
 mem := fun v => m3 v
 next := 3012
 gr := fun v => g3 v
 us := []
 ns := [2785, 2923, 2972]
 sv := fun _ _ => .tup [.at (.k (.pointer none)), .at (q 2)]
 mem' := fun v _ => m3 v
 next' := 4412
 gr' := fun v _ => g3 v
theorem Fq : pc3.Ok cfgN aD 60 500 15 9000 := ⟨fun v k => by kernel_rfl⟩
def m4 : (Nat → Nat) → List (Nat × Option Bx) := fun v => [(4441, some ⟨(v 0), 123, az⟩)]
def g4 : (Nat → Nat) → List (Nat × Nat × Nat) := fun _ => []
def pc4 : Pc where
 f := 44
 locs := [.r 4441]
 args := fun v => [.at (.sl 4441 (v 0) 0 2 (2))]
 mem := fun v => m4 v
 next := 4537
 gr := fun v => g4 v
 us := [1, 2]
 ns := [4548, 4441]
 sv := fun _ u => .s (.at (.sl 4548 (u 0) 0 2 ((u 1) + 2)))
 mem' := fun v u => [(4548, some ⟨(u 0), 123, wide az (u 1) 14⟩)] ++ m4 v
 next' := 4641
 gr' := fun v u => [(4548, 28, (u 1))] ++ g4 v
theorem Fp : pc4.Ok cfgN aD 60 500 15 9000 := ⟨fun v k => by kernel_rfl⟩
def m5 : (Nat → Nat) → List (Nat × Option Bx) := fun v => [(4548, some ⟨(v 0), 123, wide az (v 3) 14⟩),
 (4686, some ⟨(v 1), 3, wide c4 (v 4) 1⟩),
 (4735, some ⟨(v 2), 254, c3⟩)]
def g5 : (Nat → Nat) → List (Nat × Nat × Nat) := fun v => [(4548, 28, (v 3)), (4686, 20, (v 4))]
def pc5 : Pc where
 f := 14
 locs := [.r 4548, .r 4686, .r 4735, .c 4548, .c 4686]
 args := fun v => [.agg [q 1, q 0, q 20, q 60, q 0, q 9], .at (.sl 4548 (v 0) 0 2 ((v 3) + 2)), .agg [.sl 4686 (v 1) 0 20 ((v 4) + 20), .sl 4686 (v 1) 0 20 ((v 4) + 20)], .at (.sl 4735 (v 2) 0 400 (400))]
 mem := fun v => m5 v
 next := 4775
 gr := fun v => g5 v
 us := [44, 42, 43, 412, 413, 416, 417, 419, 420, 423, 424, 474, 475, 32, 33]
 ns := [5727, 12132, 12220, 12240, 12318, 12972, 5598, 5592, 5612, 4548, 4686, 4735]
 sv := fun _ u => .tup [.at (.p 5612 (u 0) 0), .at (q 0)]
 mem' := fun v u => [(5727, some ⟨(u 1), 123, wide az (u 2) 14⟩),
 (12132, some ⟨(u 3), 173, wide c5 (u 4) 12⟩),
 (12220, some ⟨(u 5), 3, wide c6 (u 6) 1⟩),
 (12240, some ⟨(u 7), 3, wide [q 1, q 20, q 19, q 18, q 17, q 16, q 15] (u 8) 1⟩),
 (12318, some ⟨(u 9), 3, wide c7 (u 10) 1⟩),
 (12972, some ⟨(u 11), 3, wide [q 21, q 40, q 39, q 38, q 37, q 36, q 35] (u 12) 1⟩),
 (5598, some ⟨(u 13), 254, c3⟩),
 (5592, some ⟨(u 14), 199, [bt, .sl 5598 (u 13) 0 400 (400), q 38]⟩),
 (5612, some ⟨(u 0), 132, [q 1, q 0, q 20, q 60, q 0, q 9, .sl 5727 (u 1) 0 2 ((u 2) + 2), .sl 12132 (u 3) 0 40 ((u 4) + 40), q 1, q 0, q 0, q 0, q 0, .sl 12220 (u 5) 0 13 ((u 6) + 13), .sl 12240 (u 7) 0 7 ((u 8) + 7), zs, zs, bf, bf, bf, q 0, q 0, q 1, q 0, q 0, q 0, q 0, .sl 12318 (u 9) 0 13 ((u 10) + 20), .sl 12972 (u 11) 0 7 ((u 12) + 7), zs, zs, bf, bf, bf, q 0, q 0, zs, zs, zs, zs, q 0, q 0, q 0, q (-1), q 0, .p 5592 (u 14) 0, bf, bf, q 0]⟩)] ++ m5 v
 next' := 13360
 gr' := fun v u => [(5727, 28, (u 2)), (12132, 480, (u 4)), (12220, 13, (u 6)), (12240, 7, (u 8)), (12318, 20, (u 10)), (12972, 7, (u 12))] ++ g5 v
theorem Fo : pc5.Ok cfgN aD 60 500 15 9000 := ⟨fun v k => by kernel_rfl⟩
def m6 : (Nat → Nat) → List (Nat × Option Bx) := fun v => [(4548, some ⟨(v 0), 123, wide az (v 4) 14⟩),
 (4686, some ⟨(v 1), 3, wide c4 (v 5) 1⟩),
 (4716, some ⟨(v 2), 3, wide c4 (v 6) 1⟩),
 (13370, some ⟨(v 3), 254, c3⟩)]
def g6 : (Nat → Nat) → List (Nat × Nat × Nat) := fun v => [(4548, 28, (v 4)), (4686, 20, (v 5)), (4716, 20, (v 6))]
def pc6 : Pc where
 f := 14
 locs := [.r 4548, .r 4686, .r 4716, .r 13370, .c 4548, .c 4686, .c 4716]
 args := fun v => [.agg [q 1, q 0, q 20, q 60, q 0, q 9], .at (.sl 4548 (v 0) 0 2 ((v 4) + 2)), .agg [.sl 4686 (v 1) 0 20 ((v 5) + 20), .sl 4716 (v 2) 0 20 ((v 6) + 20)], .at (.sl 13370 (v 3) 0 400 (400))]
 mem := fun v => m6 v
 next := 13410
 gr := fun v => g6 v
 us := [44, 42, 43, 412, 413, 416, 417, 419, 420, 423, 424, 474, 475, 32, 33]
 ns := [14362, 20767, 20855, 20875, 20953, 21607, 14233, 14227, 14247, 4548, 4686, 4716, 13370]
 sv := fun _ u => .tup [.at (.p 14247 (u 0) 0), .at (q 0)]
 mem' := fun v u => [(14362, some ⟨(u 1), 123, wide az (u 2) 14⟩),
 (20767, some ⟨(u 3), 173, wide c5 (u 4) 12⟩),
 (20855, some ⟨(u 5), 3, wide c6 (u 6) 1⟩),
 (20875, some ⟨(u 7), 3, wide [q 1, q 20, q 19, q 18, q 17, q 16, q 15] (u 8) 1⟩),
 (20953, some ⟨(u 9), 3, wide c7 (u 10) 1⟩),
 (21607, some ⟨(u 11), 3, wide [q 21, q 40, q 39, q 38, q 37, q 36, q 35] (u 12) 1⟩),
 (14233, some ⟨(u 13), 254, c3⟩),
 (14227, some ⟨(u 14), 199, [bt, .sl 14233 (u 13) 0 400 (400), q 38]⟩),
 (14247, some ⟨(u 0), 132, [q 1, q 0, q 20, q 60, q 0, q 9, .sl 14362 (u 1) 0 2 ((u 2) + 2), .sl 20767 (u 3) 0 40 ((u 4) + 40), q 1, q 0, q 0, q 0, q 0, .sl 20855 (u 5) 0 13 ((u 6) + 13), .sl 20875 (u 7) 0 7 ((u 8) + 7), zs, zs, bf, bf, bf, q 0, q 0, q 1, q 0, q 0, q 0, q 0, .sl 20953 (u 9) 0 13 ((u 10) + 20), .sl 21607 (u 11) 0 7 ((u 12) + 7), zs, zs, bf, bf, bf, q 0, q 0, zs, zs, zs, zs, q 0, q 0, q 0, q (-1), q 0, .p 14227 (u 14) 0, bf, bf, q 0]⟩)] ++ m6 v
 next' := 21995
 gr' := fun v u => [(14362, 28, (u 2)), (20767, 480, (u 4)), (20855, 13, (u 6)), (20875, 7, (u 8)), (20953, 20, (u 10)), (21607, 7, (u 12))] ++ g6 v
theorem Fj : pc6.Ok cfgN aD 60 500 15 9000 := ⟨fun v k => by kernel_rfl⟩
end Go.Proofs.YtpcpmblfhlcmaaaGreatDoor
