/- A piece of the examples' run, reckoned by itself: call 12, zeitnot/zeitnotlaw25.answers. -/
import Derived.Test.YtocfkcilcfojiaaGreatDoorC6
namespace Go.Proofs.YtocfkcilcfojiaaGreatDoor
open Go Go.Sx
set_option maxRecDepth 100000
set_option maxHeartbeats 1000000
def pc12 : Pc where
 f := 42
 locs := [.r 27628, .r 27622, .r 32791, .r 33340, .r 32713, .r 32609, .r 27757, .r 27642, .c 32791, .c 33340, .c 32713, .c 32609, .c 27757]
 args := fun v => [.at (.p 27642 (v 7) 0), .at (q 4), .at (q 2), .at (q 0), .at (q 0)]
 mem := fun v => [(27628, some ⟨(v 0), 303, []⟩),
 (27622, some ⟨(v 1), 173, [bt, .sl 27628 (v 0) 0 0 (0), q 0]⟩),
 (32791, some ⟨(v 2), 3, wide [q 3] (v 8) 1⟩),
 (33340, some ⟨(v 3), 3, wide [q 1] (v 9) 1⟩),
 (32713, some ⟨(v 4), 3, wide [q 2, q 0] (v 10) 1⟩),
 (32609, some ⟨(v 5), 91, wide [q 1, q 0, q 0, q 0, q 0, q 0, q 0, q 0, q 0, bf, bt, bf, q 2, q 1, q 0, q 0, q 0, q 0, q 0, q 0, q 0, bf, bf, bf, q 3, q 0, q 1, q 0, q 0, q 0, q 0, q 0, q 0, bf, bf, bf] (v 11) 12⟩),
 (27757, some ⟨(v 6), 104, wide [.k (.string ⟨#[102, 105, 101, 108, 100]⟩), q 1, q 0, q 0, q 0, q 0, q 0, q 0, q 0, q 0, q 0, zs, zs, q 1, .k (.string ⟨#[102, 111, 120]⟩), q 2, q 1, q 0, q 0, q 0, q 0, q 0, q 2, q 1, q 1, zs, zs, q 1] (v 12) 14⟩),
 (27642, some ⟨(v 7), 47, [q 20, q 1, q 10, q 40, q 5, q 3, .sl 27757 (v 6) 0 2 (v 12 + 2), .sl 32609 (v 5) 0 3 (v 11 + 3), q 20, q 0, q 0, q 0, q 0, zs, .sl 32713 (v 4) 0 1 (v 10 + 2), .sl 33340 (v 3) 0 1 (v 9 + 1), zs, bf, bt, bf, q 0, q 1, q 20, q 0, q 0, q 0, q 0, .sl 32791 (v 2) 0 1 (v 8 + 1), zs, zs, zs, bf, bf, bf, q 0, q 0, zs, zs, zs, zs, q 1, q 0, q 4, q (-1), q 0, .p 27622 (v 1) 0, bf, bf, q 0]⟩)]
 next := 35735
 gr := fun v => [(32791, 1, (v 8)), (33340, 1, (v 9)), (32713, 2, (v 10)), (32609, 36, (v 11)), (27757, 28, (v 12))]
 us := [264, 265, 273, 274, 269, 270, 267, 261, 262]
 ns := [40427, 40606, 40544, 40521, 40397, 27642, 27757, 32609, 32713, 33340, 32791, 27622, 27628]
 sv := fun _ _ => .s (.at (bt))
 mem' := fun v u => [(40427, some ⟨(u 0), 125, wide [q 0, q 2, q 1, q (-1), zs] (u 1) 5⟩),
 (40606, some ⟨(u 2), 3, wide [q 3] (u 3) 1⟩),
 (40544, some ⟨(u 4), 3, wide [q 1] (u 5) 1⟩),
 (40521, some ⟨(u 6), 3, []⟩),
 (40397, some ⟨(u 7), 91, wide [q 1, q 0, q 0, q 0, q 0, q 0, q 0, q 0, q 0, bt, bt, bf, q 2, q 1, q 0, q 0, q 0, q 0, q 0, q 0, q 0, bf, bf, bf, q 3, q 0, q 1, q 0, q 0, q 0, q 0, q 0, q 0, bf, bf, bf] (u 8) 12⟩),
 (27642, some ⟨(v 7), 47, [q 20, q 1, q 10, q 40, q 5, q 3, .sl 27757 (v 6) 0 2 (v 12 + 2), .sl 40397 (u 7) 0 3 (u 8 + 3), q 20, q 0, q 0, q 0, q 0, zs, .sl 40521 (u 6) 0 0 (0), .sl 40544 (u 4) 0 1 (u 5 + 1), zs, bf, bt, bf, q 0, q 2, q 20, q 0, q 0, q 0, q 0, .sl 40606 (u 2) 0 1 (u 3 + 1), zs, zs, zs, bf, bf, bf, q 0, q 0, .sl 40427 (u 0) 0 1 (u 1 + 1), zs, zs, zs, q 1, q 0, q 4, q 1, q 1, .p 27622 (v 1) 0, bf, bf, q 0]⟩),
 (27757, some ⟨(v 6), 104, wide [.k (.string ⟨#[102, 105, 101, 108, 100]⟩), q 1, q 0, q 0, q 0, q 0, q 0, q 0, q 0, q 0, q 0, zs, zs, q 1, .k (.string ⟨#[102, 111, 120]⟩), q 2, q 1, q 0, q 0, q 0, q 0, q 0, q 2, q 1, q 1, zs, zs, q 1] (v 12) 14⟩),
 (32609, some ⟨(v 5), 91, wide [q 1, q 0, q 0, q 0, q 0, q 0, q 0, q 0, q 0, bf, bt, bf, q 2, q 1, q 0, q 0, q 0, q 0, q 0, q 0, q 0, bf, bf, bf, q 3, q 0, q 1, q 0, q 0, q 0, q 0, q 0, q 0, bf, bf, bf] (v 11) 12⟩),
 (32713, some ⟨(v 4), 3, wide [q 2, q 0] (v 10) 1⟩),
 (33340, some ⟨(v 3), 3, wide [q 1] (v 9) 1⟩),
 (32791, some ⟨(v 2), 3, wide [q 3] (v 8) 1⟩),
 (27622, some ⟨(v 1), 173, [bt, .sl 27628 (v 0) 0 0 (0), q 0]⟩),
 (27628, some ⟨(v 0), 303, []⟩)]
 next' := 42067
 gr' := fun v u => [(40427, 5, (u 1)), (40606, 1, (u 3)), (40544, 1, (u 5)), (40397, 36, (u 8)), (27757, 28, (v 12)), (32609, 36, (v 11)), (32713, 2, (v 10)), (33340, 1, (v 9)), (32791, 1, (v 8))]
theorem xe : pc12.Ok cfgN mR 60 300 14 4000 := ⟨fun v k => by kernel_rfl⟩
end Go.Proofs.YtocfkcilcfojiaaGreatDoor
