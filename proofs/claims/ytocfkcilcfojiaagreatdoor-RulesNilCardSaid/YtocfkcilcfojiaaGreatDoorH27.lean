/- A piece of the examples' run, reckoned by itself: call 18, zeitnot/zeitnotlaw25.answers. -/
import Derived.Test.YtocfkcilcfojiaaGreatDoorC6
namespace Go.Proofs.YtocfkcilcfojiaaGreatDoor
open Go Go.Sx
set_option maxRecDepth 100000
set_option maxHeartbeats 1000000
def pc18 : Pc where
 f := 42
 locs := [.r 27628, .r 27622, .r 62737, .r 62759, .r 62924, .r 62875, .r 62859, .r 62836, .r 62729, .r 27757, .r 27642, .c 62737, .c 62924, .c 62859, .c 62729, .c 27757]
 args := fun v => [.at (.p 27642 (v 10) 0), .at (q 1), .at (q 0), .at (q 1), .at (q 0)]
 mem := fun v => [(27628, some ⟨(v 0), 303, []⟩),
 (27622, some ⟨(v 1), 173, [bt, .sl 27628 (v 0) 0 0 (0), q 0]⟩),
 (62737, some ⟨(v 2), 3, wide [q 2] (v 11) 1⟩),
 (62759, some ⟨(v 3), 125, []⟩),
 (62924, some ⟨(v 4), 3, wide [q 3] (v 12) 1⟩),
 (62875, some ⟨(v 5), 3, []⟩),
 (62859, some ⟨(v 6), 3, wide [q 1, q 2] (v 13) 1⟩),
 (62836, some ⟨(v 7), 3, []⟩),
 (62729, some ⟨(v 8), 91, wide [q 1, q 0, q 0, q 0, q 0, q 0, q 0, q 0, q 0, bt, bt, bf, q 2, q 1, q 0, q 0, q 0, q 0, q 0, q 0, q 0, bt, bt, bf, q 3, q 0, q 1, q 0, q 0, q 0, q 0, q 0, q 0, bf, bf, bf] (v 14) 12⟩),
 (27757, some ⟨(v 9), 104, wide [.k (.string ⟨#[102, 105, 101, 108, 100]⟩), q 1, q 0, q 0, q 0, q 0, q 0, q 0, q 0, q 0, q 0, zs, zs, q 1, .k (.string ⟨#[102, 111, 120]⟩), q 2, q 1, q 0, q 0, q 0, q 0, q 0, q 2, q 1, q 1, zs, zs, q 1] (v 15) 14⟩),
 (27642, some ⟨(v 10), 47, [q 20, q 1, q 10, q 40, q 5, q 3, .sl 27757 (v 9) 0 2 (v 15 + 2), .sl 62729 (v 8) 0 3 (v 14 + 3), q 20, q 0, q 0, q 0, q 0, zs, .sl 62836 (v 7) 0 0 (0), .sl 62859 (v 6) 0 2 (v 13 + 2), .sl 62875 (v 5) 0 0 (0), bf, bt, bf, q 0, q 3, q 20, q 0, q 0, q 0, q 0, .sl 62924 (v 4) 0 1 (v 12 + 1), zs, zs, zs, bf, bf, bf, q 0, q 0, .sl 62759 (v 3) 0 0 (0), zs, .sl 62737 (v 2) 0 1 (v 11 + 1), zs, q 1, q 0, q 7, q 1, q 1, .p 27622 (v 1) 0, bf, bf, q 0]⟩)]
 next := 64743
 gr := fun v => [(62737, 1, (v 11)), (62924, 1, (v 12)), (62859, 2, (v 13)), (62729, 36, (v 14)), (27757, 28, (v 15))]
 us := [176, 185, 186, 182, 180, 181, 178, 171, 172]
 ns := [68009, 68174, 68125, 68109, 68086, 67979, 27642, 27757, 62729, 62836, 62859, 62875, 62924, 62759, 62737, 27622, 27628]
 sv := fun _ _ => .s (.at (bt))
 mem' := fun v u => [(68009, some ⟨(u 0), 125, []⟩),
 (68174, some ⟨(u 1), 3, wide [q 3] (u 2) 1⟩),
 (68125, some ⟨(u 3), 3, []⟩),
 (68109, some ⟨(u 4), 3, wide [q 1, q 2] (u 5) 1⟩),
 (68086, some ⟨(u 6), 3, []⟩),
 (67979, some ⟨(u 7), 91, wide [q 1, q 0, q 0, q 0, q 0, q 0, q 0, q 0, q 0, bt, bt, bf, q 2, q 1, q 0, q 0, q 0, q 0, q 0, q 0, q 0, bt, bt, bf, q 3, q 0, q 1, q 0, q 0, q 0, q 0, q 0, q 0, bf, bf, bf] (u 8) 12⟩),
 (27642, some ⟨(v 10), 47, [q 20, q 1, q 10, q 40, q 5, q 3, .sl 27757 (v 9) 0 2 (v 15 + 2), .sl 67979 (u 7) 0 3 (u 8 + 3), q 20, q 0, q 0, q 0, q 0, zs, .sl 68086 (u 6) 0 0 (0), .sl 68109 (u 4) 0 2 (u 5 + 2), .sl 68125 (u 3) 0 0 (0), bf, bt, bf, q 0, q 3, q 18, q 0, q 0, q 0, q 0, .sl 68174 (u 1) 0 1 (u 2 + 1), zs, zs, zs, bf, bf, bf, q 0, q 0, .sl 68009 (u 0) 0 0 (0), zs, zs, zs, q 1, q 0, q 9, q (-1), q 0, .p 27622 (v 1) 0, bf, bf, q 0]⟩),
 (27757, some ⟨(v 9), 104, wide [.k (.string ⟨#[102, 105, 101, 108, 100]⟩), q 1, q 0, q 0, q 0, q 0, q 0, q 0, q 0, q 0, q 0, zs, zs, q 1, .k (.string ⟨#[102, 111, 120]⟩), q 2, q 1, q 0, q 0, q 0, q 0, q 0, q 2, q 1, q 1, zs, zs, q 1] (v 15) 14⟩),
 (62729, some ⟨(v 8), 91, wide [q 1, q 0, q 0, q 0, q 0, q 0, q 0, q 0, q 0, bt, bt, bf, q 2, q 1, q 0, q 0, q 0, q 0, q 0, q 0, q 0, bt, bt, bf, q 3, q 0, q 1, q 0, q 0, q 0, q 0, q 0, q 0, bf, bf, bf] (v 14) 12⟩),
 (62836, some ⟨(v 7), 3, []⟩),
 (62859, some ⟨(v 6), 3, wide [q 1, q 2] (v 13) 1⟩),
 (62875, some ⟨(v 5), 3, []⟩),
 (62924, some ⟨(v 4), 3, wide [q 3] (v 12) 1⟩),
 (62759, some ⟨(v 3), 125, []⟩),
 (62737, some ⟨(v 2), 3, wide [q 2] (v 11) 1⟩),
 (27622, some ⟨(v 1), 173, [bt, .sl 27628 (v 0) 0 0 (0), q 0]⟩),
 (27628, some ⟨(v 0), 303, []⟩)]
 next' := 70435
 gr' := fun v u => [(68174, 1, (u 2)), (68109, 2, (u 5)), (67979, 36, (u 8)), (27757, 28, (v 15)), (62729, 36, (v 14)), (62859, 2, (v 13)), (62924, 1, (v 12)), (62737, 1, (v 11))]
theorem wZ : pc18.Ok cfgN mR 60 300 14 4000 := ⟨fun v k => by kernel_rfl⟩
end Go.Proofs.YtocfkcilcfojiaaGreatDoor
