/- A piece of the examples' run, reckoned by itself: call 10, zeitnot/rules.At. -/
import Derived.Test.YtocfkcilcfojiaaGreatDoorC6
namespace Go.Proofs.YtocfkcilcfojiaaGreatDoor
open Go Go.Sx
set_option maxRecDepth 100000
set_option maxHeartbeats 1000000
def pc10 : Pc where
 f := 46
 locs := [.r 26631, .r 26780, .r 26568, .r 26804, .c 26631, .c 26780, .c 26568]
 args := fun v => [.agg [q 20, q 1, q 10, q 40, q 5, q 3], .at (.sl 26804 (v 3) 0 2 (2)), .agg [.sl 26568 (v 2) 0 3 (v 6 + 3), q 20, q 0, q 0, q 0, q 0, zs, .sl 26780 (v 1) 0 2 (v 5 + 2), zs, zs, bf, bf, bf, q 0, q 0, q 20, q 0, q 0, q 0, q 0, .sl 26631 (v 0) 0 1 (v 4 + 1), zs, zs, zs, bf, bf, bf, q 0, q 0, zs, zs, zs, zs, q 1, q 0, q 4, q (-1), q 0], .at (zs)]
 mem := fun v => [(26631, some ⟨(v 0), 3, wide [q 3] (v 4) 1⟩),
 (26780, some ⟨(v 1), 3, wide [q 1, q 2] (v 5) 1⟩),
 (26568, some ⟨(v 2), 91, wide [q 1, q 0, q 0, q 0, q 0, q 0, q 0, q 0, q 0, bf, bf, bf, q 2, q 1, q 0, q 0, q 0, q 0, q 0, q 0, q 0, bf, bf, bf, q 3, q 0, q 1, q 0, q 0, q 0, q 0, q 0, q 0, bf, bf, bf] (v 6) 12⟩),
 (26804, some ⟨(v 3), 104, [.k (.string ⟨#[102, 105, 101, 108, 100]⟩), q 1, q 0, q 0, q 0, q 0, q 0, q 0, q 0, q 0, q 0, zs, zs, q 1, .k (.string ⟨#[102, 111, 120]⟩), q 2, q 1, q 0, q 0, q 0, q 0, q 0, q 2, q 1, q 1, zs, zs, q 1]⟩)]
 next := 26806
 gr := fun v => [(26631, 1, (v 4)), (26780, 2, (v 5)), (26568, 36, (v 6))]
 us := [43, 31, 32, 55, 56, 51, 52, 47, 48, 41, 42]
 ns := [27628, 27622, 27999, 27921, 27817, 27757, 27642, 26804, 26568, 26780, 26631]
 sv := fun _ u => .tup [.at (.p 27642 (u 0) 0), .at (q 0)]
 mem' := fun v u => [(27628, some ⟨(u 1), 303, []⟩),
 (27622, some ⟨(u 2), 173, [bt, .sl 27628 (u 1) 0 0 (0), q 0]⟩),
 (27999, some ⟨(u 3), 3, wide [q 3] (u 4) 1⟩),
 (27921, some ⟨(u 5), 3, wide [q 1, q 2] (u 6) 1⟩),
 (27817, some ⟨(u 7), 91, wide [q 1, q 0, q 0, q 0, q 0, q 0, q 0, q 0, q 0, bf, bf, bf, q 2, q 1, q 0, q 0, q 0, q 0, q 0, q 0, q 0, bf, bf, bf, q 3, q 0, q 1, q 0, q 0, q 0, q 0, q 0, q 0, bf, bf, bf] (u 8) 12⟩),
 (27757, some ⟨(u 9), 104, wide [.k (.string ⟨#[102, 105, 101, 108, 100]⟩), q 1, q 0, q 0, q 0, q 0, q 0, q 0, q 0, q 0, q 0, zs, zs, q 1, .k (.string ⟨#[102, 111, 120]⟩), q 2, q 1, q 0, q 0, q 0, q 0, q 0, q 2, q 1, q 1, zs, zs, q 1] (u 10) 14⟩),
 (27642, some ⟨(u 0), 47, [q 20, q 1, q 10, q 40, q 5, q 3, .sl 27757 (u 9) 0 2 (u 10 + 2), .sl 27817 (u 7) 0 3 (u 8 + 3), q 20, q 0, q 0, q 0, q 0, zs, .sl 27921 (u 5) 0 2 (u 6 + 2), zs, zs, bf, bf, bf, q 0, q 0, q 20, q 0, q 0, q 0, q 0, .sl 27999 (u 3) 0 1 (u 4 + 1), zs, zs, zs, bf, bf, bf, q 0, q 0, zs, zs, zs, zs, q 1, q 0, q 4, q (-1), q 0, .p 27622 (u 2) 0, bf, bf, q 0]⟩),
 (26804, some ⟨(v 3), 104, [.k (.string ⟨#[102, 105, 101, 108, 100]⟩), q 1, q 0, q 0, q 0, q 0, q 0, q 0, q 0, q 0, q 0, zs, zs, q 1, .k (.string ⟨#[102, 111, 120]⟩), q 2, q 1, q 0, q 0, q 0, q 0, q 0, q 2, q 1, q 1, zs, zs, q 1]⟩),
 (26568, some ⟨(v 2), 91, wide [q 1, q 0, q 0, q 0, q 0, q 0, q 0, q 0, q 0, bf, bf, bf, q 2, q 1, q 0, q 0, q 0, q 0, q 0, q 0, q 0, bf, bf, bf, q 3, q 0, q 1, q 0, q 0, q 0, q 0, q 0, q 0, bf, bf, bf] (v 6) 12⟩),
 (26780, some ⟨(v 1), 3, wide [q 1, q 2] (v 5) 1⟩),
 (26631, some ⟨(v 0), 3, wide [q 3] (v 4) 1⟩)]
 next' := 30256
 gr' := fun v u => [(27999, 1, (u 4)), (27921, 2, (u 6)), (27817, 36, (u 8)), (27757, 28, (u 10)), (26568, 36, (v 6)), (26780, 2, (v 5)), (26631, 1, (v 4))]
theorem xg : pc10.Ok cfgN mR 60 300 14 4000 := ⟨fun v k => by kernel_rfl⟩
end Go.Proofs.YtocfkcilcfojiaaGreatDoor
