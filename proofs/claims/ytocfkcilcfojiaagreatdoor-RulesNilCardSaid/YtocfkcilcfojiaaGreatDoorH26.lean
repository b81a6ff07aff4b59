/- A piece of the examples' run, reckoned by itself: call 17, zeitnot/zeitnotlaw25.answers. -/
import Derived.Test.YtocfkcilcfojiaaGreatDoorC6
namespace Go.Proofs.YtocfkcilcfojiaaGreatDoor
open Go Go.Sx
set_option maxRecDepth 100000
set_option maxHeartbeats 1000000
def pc17 : Pc where
 f := 42
 locs := [.r 27628, .r 27622, .r 59493, .r 59515, .r 59680, .r 59631, .r 59615, .r 59592, .r 59485, .r 27757, .r 27642, .c 59493, .c 59680, .c 59615, .c 59485, .c 27757]
 args := fun v => [.at (.p 27642 (v 10) 0), .at (q 1), .at (q 0), .at (q 0), .at (q 0)]
 mem := fun v => [(27628, some ⟨(v 0), 303, []⟩),
 (27622, some ⟨(v 1), 173, [bt, .sl 27628 (v 0) 0 0 (0), q 0]⟩),
 (59493, some ⟨(v 2), 3, wide [q 2] (v 11) 1⟩),
 (59515, some ⟨(v 3), 125, []⟩),
 (59680, some ⟨(v 4), 3, wide [q 3] (v 12) 1⟩),
 (59631, some ⟨(v 5), 3, []⟩),
 (59615, some ⟨(v 6), 3, wide [q 1, q 2] (v 13) 1⟩),
 (59592, some ⟨(v 7), 3, []⟩),
 (59485, some ⟨(v 8), 91, wide [q 1, q 0, q 0, q 0, q 0, q 0, q 0, q 0, q 0, bt, bt, bf, q 2, q 1, q 0, q 0, q 0, q 0, q 0, q 0, q 0, bt, bt, bf, q 3, q 0, q 1, q 0, q 0, q 0, q 0, q 0, q 0, bf, bf, bf] (v 14) 12⟩),
 (27757, some ⟨(v 9), 104, wide [.k (.string ⟨#[102, 105, 101, 108, 100]⟩), q 1, q 0, q 0, q 0, q 0, q 0, q 0, q 0, q 0, q 0, zs, zs, q 1, .k (.string ⟨#[102, 111, 120]⟩), q 2, q 1, q 0, q 0, q 0, q 0, q 0, q 2, q 1, q 1, zs, zs, q 1] (v 15) 14⟩),
 (27642, some ⟨(v 10), 47, [q 20, q 1, q 10, q 40, q 5, q 3, .sl 27757 (v 9) 0 2 (v 15 + 2), .sl 59485 (v 8) 0 3 (v 14 + 3), q 20, q 0, q 0, q 0, q 0, zs, .sl 59592 (v 7) 0 0 (0), .sl 59615 (v 6) 0 2 (v 13 + 2), .sl 59631 (v 5) 0 0 (0), bf, bt, bf, q 0, q 3, q 20, q 0, q 0, q 0, q 0, .sl 59680 (v 4) 0 1 (v 12 + 1), zs, zs, zs, bf, bf, bf, q 0, q 0, .sl 59515 (v 3) 0 0 (0), zs, .sl 59493 (v 2) 0 1 (v 11 + 1), zs, q 1, q 0, q 7, q 0, q 0, .p 27622 (v 1) 0, bf, bf, q 0]⟩)]
 next := 61483
 gr := fun v => [(59493, 1, (v 11)), (59680, 1, (v 12)), (59615, 2, (v 13)), (59485, 36, (v 14)), (27757, 28, (v 15))]
 us := [69, 70, 71, 80, 81, 77, 75, 76, 73, 66, 67]
 ns := [62737, 62759, 62924, 62875, 62859, 62836, 62729, 27642, 27757, 59485, 59592, 59615, 59631, 59680, 59515, 59493, 27622, 27628]
 sv := fun _ _ => .s (.at (bt))
 mem' := fun v u => [(62737, some ⟨(u 0), 3, wide [q 2] (u 1) 1⟩),
 (62759, some ⟨(u 2), 125, []⟩),
 (62924, some ⟨(u 3), 3, wide [q 3] (u 4) 1⟩),
 (62875, some ⟨(u 5), 3, []⟩),
 (62859, some ⟨(u 6), 3, wide [q 1, q 2] (u 7) 1⟩),
 (62836, some ⟨(u 8), 3, []⟩),
 (62729, some ⟨(u 9), 91, wide [q 1, q 0, q 0, q 0, q 0, q 0, q 0, q 0, q 0, bt, bt, bf, q 2, q 1, q 0, q 0, q 0, q 0, q 0, q 0, q 0, bt, bt, bf, q 3, q 0, q 1, q 0, q 0, q 0, q 0, q 0, q 0, bf, bf, bf] (u 10) 12⟩),
 (27642, some ⟨(v 10), 47, [q 20, q 1, q 10, q 40, q 5, q 3, .sl 27757 (v 9) 0 2 (v 15 + 2), .sl 62729 (u 9) 0 3 (u 10 + 3), q 20, q 0, q 0, q 0, q 0, zs, .sl 62836 (u 8) 0 0 (0), .sl 62859 (u 6) 0 2 (u 7 + 2), .sl 62875 (u 5) 0 0 (0), bf, bt, bf, q 0, q 3, q 20, q 0, q 0, q 0, q 0, .sl 62924 (u 3) 0 1 (u 4 + 1), zs, zs, zs, bf, bf, bf, q 0, q 0, .sl 62759 (u 2) 0 0 (0), zs, .sl 62737 (u 0) 0 1 (u 1 + 1), zs, q 1, q 0, q 7, q 1, q 1, .p 27622 (v 1) 0, bf, bf, q 0]⟩),
 (27757, some ⟨(v 9), 104, wide [.k (.string ⟨#[102, 105, 101, 108, 100]⟩), q 1, q 0, q 0, q 0, q 0, q 0, q 0, q 0, q 0, q 0, zs, zs, q 1, .k (.string ⟨#[102, 111, 120]⟩), q 2, q 1, q 0, q 0, q 0, q 0, q 0, q 2, q 1, q 1, zs, zs, q 1] (v 15) 14⟩),
 (59485, some ⟨(v 8), 91, wide [q 1, q 0, q 0, q 0, q 0, q 0, q 0, q 0, q 0, bt, bt, bf, q 2, q 1, q 0, q 0, q 0, q 0, q 0, q 0, q 0, bt, bt, bf, q 3, q 0, q 1, q 0, q 0, q 0, q 0, q 0, q 0, bf, bf, bf] (v 14) 12⟩),
 (59592, some ⟨(v 7), 3, []⟩),
 (59615, some ⟨(v 6), 3, wide [q 1, q 2] (v 13) 1⟩),
 (59631, some ⟨(v 5), 3, []⟩),
 (59680, some ⟨(v 4), 3, wide [q 3] (v 12) 1⟩),
 (59515, some ⟨(v 3), 125, []⟩),
 (59493, some ⟨(v 2), 3, wide [q 2] (v 11) 1⟩),
 (27622, some ⟨(v 1), 173, [bt, .sl 27628 (v 0) 0 0 (0), q 0]⟩),
 (27628, some ⟨(v 0), 303, []⟩)]
 next' := 64743
 gr' := fun v u => [(62737, 1, (u 1)), (62924, 1, (u 4)), (62859, 2, (u 7)), (62729, 36, (u 10)), (27757, 28, (v 15)), (59485, 36, (v 14)), (59615, 2, (v 13)), (59680, 1, (v 12)), (59493, 1, (v 11))]
theorem w8 : pc17.Ok cfgN mR 60 300 14 4000 := ⟨fun v k => by kernel_rfl⟩
end Go.Proofs.YtocfkcilcfojiaaGreatDoor
