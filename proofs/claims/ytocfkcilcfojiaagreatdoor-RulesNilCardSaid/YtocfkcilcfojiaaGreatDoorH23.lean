/- A piece of the examples' run, reckoned by itself: call 14, zeitnot/zeitnotlaw25.answers. -/
import Derived.Test.YtocfkcilcfojiaaGreatDoorC6
namespace Go.Proofs.YtocfkcilcfojiaaGreatDoor
open Go Go.Sx
set_option maxRecDepth 100000
set_option maxHeartbeats 1000000
def pc14 : Pc where
 f := 42
 locs := [.r 27628, .r 27622, .r 40427, .r 40606, .r 40544, .r 40521, .r 40397, .r 27757, .r 27642, .c 40427, .c 40606, .c 40544, .c 40397, .c 27757]
 args := fun v => [.at (.p 27642 (v 8) 0), .at (q 1), .at (q 0), .at (q 0), .at (q 0)]
 mem := fun v => [(27628, some ⟨(v 0), 303, []⟩),
 (27622, some ⟨(v 1), 173, [bt, .sl 27628 (v 0) 0 0 (0), q 0]⟩),
 (40427, some ⟨(v 2), 125, wide [q 0, q 2, q 1, q (-1), zs] (v 9) 5⟩),
 (40606, some ⟨(v 3), 3, wide [q 3] (v 10) 1⟩),
 (40544, some ⟨(v 4), 3, wide [q 1] (v 11) 1⟩),
 (40521, some ⟨(v 5), 3, []⟩),
 (40397, some ⟨(v 6), 91, wide [q 1, q 0, q 0, q 0, q 0, q 0, q 0, q 0, q 0, bt, bt, bf, q 2, q 1, q 0, q 0, q 0, q 0, q 0, q 0, q 0, bf, bf, bf, q 3, q 0, q 1, q 0, q 0, q 0, q 0, q 0, q 0, bf, bf, bf] (v 12) 12⟩),
 (27757, some ⟨(v 7), 104, wide [.k (.string ⟨#[102, 105, 101, 108, 100]⟩), q 1, q 0, q 0, q 0, q 0, q 0, q 0, q 0, q 0, q 0, zs, zs, q 1, .k (.string ⟨#[102, 111, 120]⟩), q 2, q 1, q 0, q 0, q 0, q 0, q 0, q 2, q 1, q 1, zs, zs, q 1] (v 13) 14⟩),
 (27642, some ⟨(v 8), 47, [q 20, q 1, q 10, q 40, q 5, q 3, .sl 27757 (v 7) 0 2 (v 13 + 2), .sl 40397 (v 6) 0 3 (v 12 + 3), q 20, q 0, q 0, q 0, q 0, zs, .sl 40521 (v 5) 0 0 (0), .sl 40544 (v 4) 0 1 (v 11 + 1), zs, bf, bt, bf, q 0, q 2, q 20, q 0, q 0, q 0, q 0, .sl 40606 (v 3) 0 1 (v 10 + 1), zs, zs, zs, bf, bf, bf, q 0, q 0, .sl 40427 (v 2) 0 1 (v 9 + 1), zs, zs, zs, q 1, q 0, q 4, q 1, q 1, .p 27622 (v 1) 0, bf, bf, q 0]⟩)]
 next := 43037
 gr := fun v => [(40427, 5, (v 9)), (40606, 1, (v 10)), (40544, 1, (v 11)), (40397, 36, (v 12)), (27757, 28, (v 13))]
 us := [177, 188, 189, 184, 185, 200, 201, 179, 175, 176]
 ns := [46160, 46326, 46280, 46862, 46237, 46134, 27642, 27757, 40397, 40521, 40544, 40606, 40427, 27622, 27628]
 sv := fun _ _ => .s (.at (bt))
 mem' := fun v u => [(46160, some ⟨(u 0), 125, []⟩),
 (46326, some ⟨(u 1), 3, wide [q 3] (u 2) 1⟩),
 (46280, some ⟨(u 3), 3, wide [q 0] (u 4) 1⟩),
 (46862, some ⟨(u 5), 3, wide [q 1, q 2] (u 6) 1⟩),
 (46237, some ⟨(u 7), 3, []⟩),
 (46134, some ⟨(u 8), 91, wide [q 1, q 0, q 0, q 0, q 0, q 0, q 0, q 0, q 0, bt, bt, bf, q 2, q 1, q 0, q 0, q 0, q 0, q 0, q 0, q 0, bf, bt, bf, q 3, q 0, q 1, q 0, q 0, q 0, q 0, q 0, q 0, bf, bf, bf] (u 9) 12⟩),
 (27642, some ⟨(v 8), 47, [q 20, q 1, q 10, q 40, q 5, q 3, .sl 27757 (v 7) 0 2 (v 13 + 2), .sl 46134 (u 8) 0 3 (u 9 + 3), q 20, q 0, q 0, q 0, q 0, zs, .sl 46237 (u 7) 0 0 (0), .sl 46862 (u 5) 0 2 (u 6 + 2), .sl 46280 (u 3) 0 0 (u 4 + 1), bf, bt, bf, q 0, q 2, q 20, q 0, q 0, q 0, q 0, .sl 46326 (u 1) 0 1 (u 2 + 1), zs, zs, zs, bf, bf, bf, q 0, q 0, .sl 46160 (u 0) 0 0 (0), zs, zs, zs, q 1, q 0, q 4, q (-1), q 0, .p 27622 (v 1) 0, bf, bf, q 0]⟩),
 (27757, some ⟨(v 7), 104, wide [.k (.string ⟨#[102, 105, 101, 108, 100]⟩), q 1, q 0, q 0, q 0, q 0, q 0, q 0, q 0, q 0, q 0, zs, zs, q 1, .k (.string ⟨#[102, 111, 120]⟩), q 2, q 1, q 0, q 0, q 0, q 0, q 0, q 2, q 1, q 1, zs, zs, q 1] (v 13) 14⟩),
 (40397, some ⟨(v 6), 91, wide [q 1, q 0, q 0, q 0, q 0, q 0, q 0, q 0, q 0, bt, bt, bf, q 2, q 1, q 0, q 0, q 0, q 0, q 0, q 0, q 0, bf, bf, bf, q 3, q 0, q 1, q 0, q 0, q 0, q 0, q 0, q 0, bf, bf, bf] (v 12) 12⟩),
 (40521, some ⟨(v 5), 3, []⟩),
 (40544, some ⟨(v 4), 3, wide [q 1] (v 11) 1⟩),
 (40606, some ⟨(v 3), 3, wide [q 3] (v 10) 1⟩),
 (40427, some ⟨(v 2), 125, wide [q 0, q 2, q 1, q (-1), zs] (v 9) 5⟩),
 (27622, some ⟨(v 1), 173, [bt, .sl 27628 (v 0) 0 0 (0), q 0]⟩),
 (27628, some ⟨(v 0), 303, []⟩)]
 next' := 48699
 gr' := fun v u => [(46326, 1, (u 2)), (46280, 1, (u 4)), (46862, 2, (u 6)), (46134, 36, (u 9)), (27757, 28, (v 13)), (40397, 36, (v 12)), (40544, 1, (v 11)), (40606, 1, (v 10)), (40427, 5, (v 9))]
theorem xc : pc14.Ok cfgN mR 60 300 14 4000 := ⟨fun v k => by kernel_rfl⟩
end Go.Proofs.YtocfkcilcfojiaaGreatDoor
