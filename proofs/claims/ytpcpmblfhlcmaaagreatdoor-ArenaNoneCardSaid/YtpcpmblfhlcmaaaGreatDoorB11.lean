/- Pieces of the examples' run, each reckoned by itself. -/
import Derived.Test.YtpcpmblfhlcmaaaGreatDoorA1
namespace Go.Proofs.YtpcpmblfhlcmaaaGreatDoor
open Go Go.Sx
set_option maxRecDepth 100000
set_option maxHeartbeats 1000000
def m7 : (Nat → Nat) → List (Nat × Option Bx) := fun v => [(4548, some ⟨(v 0), 123, wide az (v 4) 14⟩),
 (4716, some ⟨(v 1), 3, wide c4 (v 5) 1⟩),
 (4686, some ⟨(v 2), 3, wide c4 (v 6) 1⟩),
 (22014, some ⟨(v 3), 254, c3⟩)]
def g7 : (Nat → Nat) → List (Nat × Nat × Nat) := fun v => [(4548, 28, (v 4)), (4716, 20, (v 5)), (4686, 20, (v 6))]
def pc7 : Pc where
 f := 14
 locs := [.r 4548, .r 4716, .r 4686, .r 22014, .c 4548, .c 4716, .c 4686]
 args := fun v => [.agg [q 1, q 0, q 20, q 60, q 0, q 9], .at (.sl 4548 (v 0) 0 2 ((v 4) + 2)), .agg [.sl 4716 (v 1) 0 20 ((v 5) + 20), .sl 4686 (v 2) 0 20 ((v 6) + 20)], .at (.sl 22014 (v 3) 0 400 (400))]
 mem := fun v => m7 v
 next := 22054
 gr := fun v => g7 v
 us := [44, 42, 43, 412, 413, 416, 417, 419, 420, 423, 424, 474, 475, 32, 33]
 ns := [23006, 29411, 29499, 29519, 29597, 30251, 22877, 22871, 22891, 4548, 4716, 4686, 22014]
 sv := fun _ u => .tup [.at (.p 22891 (u 0) 0), .at (q 0)]
 mem' := fun v u => [(23006, some ⟨(u 1), 123, wide az (u 2) 14⟩),
 (29411, some ⟨(u 3), 173, wide c5 (u 4) 12⟩),
 (29499, some ⟨(u 5), 3, wide c6 (u 6) 1⟩),
 (29519, some ⟨(u 7), 3, wide [q 1, q 20, q 19, q 18, q 17, q 16, q 15] (u 8) 1⟩),
 (29597, some ⟨(u 9), 3, wide c7 (u 10) 1⟩),
 (30251, some ⟨(u 11), 3, wide [q 21, q 40, q 39, q 38, q 37, q 36, q 35] (u 12) 1⟩),
 (22877, some ⟨(u 13), 254, c3⟩),
 (22871, some ⟨(u 14), 199, [bt, .sl 22877 (u 13) 0 400 (400), q 38]⟩),
 (22891, some ⟨(u 0), 132, [q 1, q 0, q 20, q 60, q 0, q 9, .sl 23006 (u 1) 0 2 ((u 2) + 2), .sl 29411 (u 3) 0 40 ((u 4) + 40), q 1, q 0, q 0, q 0, q 0, .sl 29499 (u 5) 0 13 ((u 6) + 13), .sl 29519 (u 7) 0 7 ((u 8) + 7), zs, zs, bf, bf, bf, q 0, q 0, q 1, q 0, q 0, q 0, q 0, .sl 29597 (u 9) 0 13 ((u 10) + 20), .sl 30251 (u 11) 0 7 ((u 12) + 7), zs, zs, bf, bf, bf, q 0, q 0, zs, zs, zs, zs, q 0, q 0, q 0, q (-1), q 0, .p 22871 (u 14) 0, bf, bf, q 0]⟩)] ++ m7 v
 next' := 30639
 gr' := fun v u => [(23006, 28, (u 2)), (29411, 480, (u 4)), (29499, 13, (u 6)), (29519, 7, (u 8)), (29597, 20, (u 10)), (30251, 7, (u 12))] ++ g7 v
theorem Fh : pc7.Ok cfgN aD 60 500 15 9000 := ⟨fun v k => by kernel_rfl⟩
def m8 : (Nat → Nat) → List (Nat × Option Bx) := fun v => [(4548, some ⟨(v 0), 123, wide az (v 3) 14⟩),
 (4716, some ⟨(v 1), 3, wide c4 (v 4) 1⟩),
 (30649, some ⟨(v 2), 254, c3⟩)]
def g8 : (Nat → Nat) → List (Nat × Nat × Nat) := fun v => [(4548, 28, (v 3)), (4716, 20, (v 4))]
def pc8 : Pc where
 f := 14
 locs := [.r 4548, .r 4716, .r 30649, .c 4548, .c 4716]
 args := fun v => [.agg [q 1, q 0, q 20, q 60, q 0, q 9], .at (.sl 4548 (v 0) 0 2 ((v 3) + 2)), .agg [.sl 4716 (v 1) 0 20 ((v 4) + 20), .sl 4716 (v 1) 0 20 ((v 4) + 20)], .at (.sl 30649 (v 2) 0 400 (400))]
 mem := fun v => m8 v
 next := 30689
 gr := fun v => g8 v
 us := [44, 42, 43, 412, 413, 416, 417, 419, 420, 423, 424, 474, 475, 32, 33]
 ns := [31641, 38046, 38134, 38154, 38232, 38886, 31512, 31506, 31526, 4548, 4716, 30649]
 sv := fun _ u => .tup [.at (.p 31526 (u 0) 0), .at (q 0)]
 mem' := fun v u => [(31641, some ⟨(u 1), 123, wide az (u 2) 14⟩),
 (38046, some ⟨(u 3), 173, wide c5 (u 4) 12⟩),
 (38134, some ⟨(u 5), 3, wide c6 (u 6) 1⟩),
 (38154, some ⟨(u 7), 3, wide [q 1, q 20, q 19, q 18, q 17, q 16, q 15] (u 8) 1⟩),
 (38232, some ⟨(u 9), 3, wide c7 (u 10) 1⟩),
 (38886, some ⟨(u 11), 3, wide [q 21, q 40, q 39, q 38, q 37, q 36, q 35] (u 12) 1⟩),
 (31512, some ⟨(u 13), 254, c3⟩),
 (31506, some ⟨(u 14), 199, [bt, .sl 31512 (u 13) 0 400 (400), q 38]⟩),
 (31526, some ⟨(u 0), 132, [q 1, q 0, q 20, q 60, q 0, q 9, .sl 31641 (u 1) 0 2 ((u 2) + 2), .sl 38046 (u 3) 0 40 ((u 4) + 40), q 1, q 0, q 0, q 0, q 0, .sl 38134 (u 5) 0 13 ((u 6) + 13), .sl 38154 (u 7) 0 7 ((u 8) + 7), zs, zs, bf, bf, bf, q 0, q 0, q 1, q 0, q 0, q 0, q 0, .sl 38232 (u 9) 0 13 ((u 10) + 20), .sl 38886 (u 11) 0 7 ((u 12) + 7), zs, zs, bf, bf, bf, q 0, q 0, zs, zs, zs, zs, q 0, q 0, q 0, q (-1), q 0, .p 31506 (u 14) 0, bf, bf, q 0]⟩)] ++ m8 v
 next' := 39274
 gr' := fun v u => [(31641, 28, (u 2)), (38046, 480, (u 4)), (38134, 13, (u 6)), (38154, 7, (u 8)), (38232, 20, (u 10)), (38886, 7, (u 12))] ++ g8 v
theorem Fg : pc8.Ok cfgN aD 60 500 15 9000 := ⟨fun v k => by kernel_rfl⟩
end Go.Proofs.YtpcpmblfhlcmaaaGreatDoor
