/- A piece of the examples' run, reckoned by itself: call 13, zeitnot/zeitnotlaw25.asks. -/
import Derived.Test.YtocfkcilcfojiaaGreatDoorC6
namespace Go.Proofs.YtocfkcilcfojiaaGreatDoor
open Go Go.Sx
set_option maxRecDepth 100000
set_option maxHeartbeats 1000000
def pc13 : Pc where
 f := 41
 locs := [.r 27628, .r 27622, .r 40427, .r 40606, .r 40544, .r 40521, .r 40397, .r 27757, .r 27642, .r 1, .c 40427, .c 40606, .c 40544, .c 40397, .c 27757]
 args := fun v => [.at (.p 27642 (v 8) 0), .at (q 1), .at (q 3), .at (.sl 1 (v 9) 0 1 (1))]
 mem := fun v => [(27628, some ⟨(v 0), 303, []⟩),
 (27622, some ⟨(v 1), 173, [bt, .sl 27628 (v 0) 0 0 (0), q 0]⟩),
 (40427, some ⟨(v 2), 125, wide [q 0, q 2, q 1, q (-1), zs] (v 10) 5⟩),
 (40606, some ⟨(v 3), 3, wide [q 3] (v 11) 1⟩),
 (40544, some ⟨(v 4), 3, wide [q 1] (v 12) 1⟩),
 (40521, some ⟨(v 5), 3, []⟩),
 (40397, some ⟨(v 6), 91, wide [q 1, q 0, q 0, q 0, q 0, q 0, q 0, q 0, q 0, bt, bt, bf, q 2, q 1, q 0, q 0, q 0, q 0, q 0, q 0, q 0, bf, bf, bf, q 3, q 0, q 1, q 0, q 0, q 0, q 0, q 0, q 0, bf, bf, bf] (v 13) 12⟩),
 (27757, some ⟨(v 7), 104, wide [.k (.string ⟨#[102, 105, 101, 108, 100]⟩), q 1, q 0, q 0, q 0, q 0, q 0, q 0, q 0, q 0, q 0, zs, zs, q 1, .k (.string ⟨#[102, 111, 120]⟩), q 2, q 1, q 0, q 0, q 0, q 0, q 0, q 2, q 1, q 1, zs, zs, q 1] (v 14) 14⟩),
 (27642, some ⟨(v 8), 47, [q 20, q 1, q 10, q 40, q 5, q 3, .sl 27757 (v 7) 0 2 (v 14 + 2), .sl 40397 (v 6) 0 3 (v 13 + 3), q 20, q 0, q 0, q 0, q 0, zs, .sl 40521 (v 5) 0 0 (0), .sl 40544 (v 4) 0 1 (v 12 + 1), zs, bf, bt, bf, q 0, q 2, q 20, q 0, q 0, q 0, q 0, .sl 40606 (v 3) 0 1 (v 11 + 1), zs, zs, zs, bf, bf, bf, q 0, q 0, .sl 40427 (v 2) 0 1 (v 10 + 1), zs, zs, zs, q 1, q 0, q 4, q 1, q 1, .p 27622 (v 1) 0, bf, bf, q 0]⟩),
 (1, some ⟨(v 9), 22, [q 1]⟩)]
 next := 42067
 gr := fun v => [(40427, 5, (v 10)), (40606, 1, (v 11)), (40544, 1, (v 12)), (40397, 36, (v 13)), (27757, 28, (v 14))]
 us := []
 ns := [1, 27642, 27757, 40397, 40521, 40544, 40606, 40427, 27622, 27628]
 sv := fun _ _ => .s (.at (bt))
 mem' := fun v _ => [(1, some ⟨(v 9), 22, [q 1]⟩),
 (27642, some ⟨(v 8), 47, [q 20, q 1, q 10, q 40, q 5, q 3, .sl 27757 (v 7) 0 2 (v 14 + 2), .sl 40397 (v 6) 0 3 (v 13 + 3), q 20, q 0, q 0, q 0, q 0, zs, .sl 40521 (v 5) 0 0 (0), .sl 40544 (v 4) 0 1 (v 12 + 1), zs, bf, bt, bf, q 0, q 2, q 20, q 0, q 0, q 0, q 0, .sl 40606 (v 3) 0 1 (v 11 + 1), zs, zs, zs, bf, bf, bf, q 0, q 0, .sl 40427 (v 2) 0 1 (v 10 + 1), zs, zs, zs, q 1, q 0, q 4, q 1, q 1, .p 27622 (v 1) 0, bf, bf, q 0]⟩),
 (27757, some ⟨(v 7), 104, wide [.k (.string ⟨#[102, 105, 101, 108, 100]⟩), q 1, q 0, q 0, q 0, q 0, q 0, q 0, q 0, q 0, q 0, zs, zs, q 1, .k (.string ⟨#[102, 111, 120]⟩), q 2, q 1, q 0, q 0, q 0, q 0, q 0, q 2, q 1, q 1, zs, zs, q 1] (v 14) 14⟩),
 (40397, some ⟨(v 6), 91, wide [q 1, q 0, q 0, q 0, q 0, q 0, q 0, q 0, q 0, bt, bt, bf, q 2, q 1, q 0, q 0, q 0, q 0, q 0, q 0, q 0, bf, bf, bf, q 3, q 0, q 1, q 0, q 0, q 0, q 0, q 0, q 0, bf, bf, bf] (v 13) 12⟩),
 (40521, some ⟨(v 5), 3, []⟩),
 (40544, some ⟨(v 4), 3, wide [q 1] (v 12) 1⟩),
 (40606, some ⟨(v 3), 3, wide [q 3] (v 11) 1⟩),
 (40427, some ⟨(v 2), 125, wide [q 0, q 2, q 1, q (-1), zs] (v 10) 5⟩),
 (27622, some ⟨(v 1), 173, [bt, .sl 27628 (v 0) 0 0 (0), q 0]⟩),
 (27628, some ⟨(v 0), 303, []⟩)]
 next' := 43037
 gr' := fun v _ => [(27757, 28, (v 14)), (40397, 36, (v 13)), (40544, 1, (v 12)), (40606, 1, (v 11)), (40427, 5, (v 10))]
theorem xd : pc13.Ok cfgN mR 60 300 14 4000 := ⟨fun v k => by kernel_rfl⟩
end Go.Proofs.YtocfkcilcfojiaaGreatDoor
