/- A piece of the examples' run, reckoned by itself: call 11, zeitnot/zeitnotlaw25.answers. -/
import Derived.Test.YtocfkcilcfojiaaGreatDoorC6
namespace Go.Proofs.YtocfkcilcfojiaaGreatDoor
open Go Go.Sx
set_option maxRecDepth 100000
set_option maxHeartbeats 1000000
def pc11 : Pc where
 f := 42
 locs := [.r 27628, .r 27622, .r 27999, .r 27921, .r 27817, .r 27757, .r 27642, .c 27999, .c 27921, .c 27817, .c 27757]
 args := fun v => [.at (.p 27642 (v 6) 0), .at (q 4), .at (q 1), .at (q 0), .at (q 0)]
 mem := fun v => [(27628, some ⟨(v 0), 303, []⟩),
 (27622, some ⟨(v 1), 173, [bt, .sl 27628 (v 0) 0 0 (0), q 0]⟩),
 (27999, some ⟨(v 2), 3, wide [q 3] (v 7) 1⟩),
 (27921, some ⟨(v 3), 3, wide [q 1, q 2] (v 8) 1⟩),
 (27817, some ⟨(v 4), 91, wide [q 1, q 0, q 0, q 0, q 0, q 0, q 0, q 0, q 0, bf, bf, bf, q 2, q 1, q 0, q 0, q 0, q 0, q 0, q 0, q 0, bf, bf, bf, q 3, q 0, q 1, q 0, q 0, q 0, q 0, q 0, q 0, bf, bf, bf] (v 9) 12⟩),
 (27757, some ⟨(v 5), 104, wide [.k (.string ⟨#[102, 105, 101, 108, 100]⟩), q 1, q 0, q 0, q 0, q 0, q 0, q 0, q 0, q 0, q 0, zs, zs, q 1, .k (.string ⟨#[102, 111, 120]⟩), q 2, q 1, q 0, q 0, q 0, q 0, q 0, q 2, q 1, q 1, zs, zs, q 1] (v 10) 14⟩),
 (27642, some ⟨(v 6), 47, [q 20, q 1, q 10, q 40, q 5, q 3, .sl 27757 (v 5) 0 2 (v 10 + 2), .sl 27817 (v 4) 0 3 (v 9 + 3), q 20, q 0, q 0, q 0, q 0, zs, .sl 27921 (v 3) 0 2 (v 8 + 2), zs, zs, bf, bf, bf, q 0, q 0, q 20, q 0, q 0, q 0, q 0, .sl 27999 (v 2) 0 1 (v 7 + 1), zs, zs, zs, bf, bf, bf, q 0, q 0, zs, zs, zs, zs, q 1, q 0, q 4, q (-1), q 0, .p 27622 (v 1) 0, bf, bf, q 0]⟩)]
 next := 30284
 gr := fun v => [(27999, 1, (v 7)), (27921, 2, (v 8)), (27817, 36, (v 9)), (27757, 28, (v 10))]
 us := [152, 153, 164, 165, 148, 149, 144, 145]
 ns := [32791, 33340, 32713, 32609, 27642, 27757, 27817, 27921, 27999, 27622, 27628]
 sv := fun _ _ => .s (.at (bt))
 mem' := fun v u => [(32791, some ⟨(u 0), 3, wide [q 3] (u 1) 1⟩),
 (33340, some ⟨(u 2), 3, wide [q 1] (u 3) 1⟩),
 (32713, some ⟨(u 4), 3, wide [q 2, q 0] (u 5) 1⟩),
 (32609, some ⟨(u 6), 91, wide [q 1, q 0, q 0, q 0, q 0, q 0, q 0, q 0, q 0, bf, bt, bf, q 2, q 1, q 0, q 0, q 0, q 0, q 0, q 0, q 0, bf, bf, bf, q 3, q 0, q 1, q 0, q 0, q 0, q 0, q 0, q 0, bf, bf, bf] (u 7) 12⟩),
 (27642, some ⟨(v 6), 47, [q 20, q 1, q 10, q 40, q 5, q 3, .sl 27757 (v 5) 0 2 (v 10 + 2), .sl 32609 (u 6) 0 3 (u 7 + 3), q 20, q 0, q 0, q 0, q 0, zs, .sl 32713 (u 4) 0 1 (u 5 + 2), .sl 33340 (u 2) 0 1 (u 3 + 1), zs, bf, bt, bf, q 0, q 1, q 20, q 0, q 0, q 0, q 0, .sl 32791 (u 0) 0 1 (u 1 + 1), zs, zs, zs, bf, bf, bf, q 0, q 0, zs, zs, zs, zs, q 1, q 0, q 4, q (-1), q 0, .p 27622 (v 1) 0, bf, bf, q 0]⟩),
 (27757, some ⟨(v 5), 104, wide [.k (.string ⟨#[102, 105, 101, 108, 100]⟩), q 1, q 0, q 0, q 0, q 0, q 0, q 0, q 0, q 0, q 0, zs, zs, q 1, .k (.string ⟨#[102, 111, 120]⟩), q 2, q 1, q 0, q 0, q 0, q 0, q 0, q 2, q 1, q 1, zs, zs, q 1] (v 10) 14⟩),
 (27817, some ⟨(v 4), 91, wide [q 1, q 0, q 0, q 0, q 0, q 0, q 0, q 0, q 0, bf, bf, bf, q 2, q 1, q 0, q 0, q 0, q 0, q 0, q 0, q 0, bf, bf, bf, q 3, q 0, q 1, q 0, q 0, q 0, q 0, q 0, q 0, bf, bf, bf] (v 9) 12⟩),
 (27921, some ⟨(v 3), 3, wide [q 1, q 2] (v 8) 1⟩),
 (27999, some ⟨(v 2), 3, wide [q 3] (v 7) 1⟩),
 (27622, some ⟨(v 1), 173, [bt, .sl 27628 (v 0) 0 0 (0), q 0]⟩),
 (27628, some ⟨(v 0), 303, []⟩)]
 next' := 35735
 gr' := fun v u => [(32791, 1, (u 1)), (33340, 1, (u 3)), (32713, 2, (u 5)), (32609, 36, (u 7)), (27757, 28, (v 10)), (27817, 36, (v 9)), (27921, 2, (v 8)), (27999, 1, (v 7))]
theorem xf : pc11.Ok cfgN mR 60 300 14 4000 := ⟨fun v k => by kernel_rfl⟩
end Go.Proofs.YtocfkcilcfojiaaGreatDoor
