/- A piece of the examples' run, reckoned by itself: call 9, zeitnot/zeitnotlaw25.answers. -/
import Derived.Test.YtocfkcilcfojiaaGreatDoorC6
namespace Go.Proofs.YtocfkcilcfojiaaGreatDoor
open Go Go.Sx
set_option maxRecDepth 100000
set_option maxHeartbeats 1000000
def pc9 : Pc where
 f := 42
 locs := [.r 847, .r 841, .r 24593, .r 24570, .r 24496, .r 24473, .r 24389, .r 976, .r 861, .c 24593, .c 24496, .c 24389, .c 976]
 args := fun v => [.at (.p 861 (v 8) 0), .at (q 1), .at (q 0), .at (q 0), .at (q 15)]
 mem := fun v => [(847, some ⟨(v 0), 303, []⟩),
 (841, some ⟨(v 1), 173, [bt, .sl 847 (v 0) 0 0 (0), q 0]⟩),
 (24593, some ⟨(v 2), 3, wide [q 2] (v 9) 1⟩),
 (24570, some ⟨(v 3), 3, []⟩),
 (24496, some ⟨(v 4), 3, wide [q 1] (v 10) 1⟩),
 (24473, some ⟨(v 5), 3, []⟩),
 (24389, some ⟨(v 6), 91, wide [q 1, q 1, q 0, q 0, q 0, q 0, q 0, q 0, q 0, bf, bf, bf, q 2, q 0, q 1, q 0, q 0, q 0, q 0, q 0, q 0, bf, bf, bf] (v 11) 12⟩),
 (976, some ⟨(v 7), 104, wide [.k (.string ⟨#[102, 105, 101, 108, 100]⟩), q 1, q 0, q 0, q 0, q 0, q 0, q 0, q 0, q 0, q 0, zs, zs, q 1, .k (.string ⟨#[102, 111, 120]⟩), q 2, q 1, q 0, q 0, q 0, q 0, q 0, q 2, q 1, q 1, zs, zs, q 1] (v 12) 14⟩),
 (861, some ⟨(v 8), 47, [q 20, q 1, q 10, q 40, q 5, q 3, .sl 976 (v 7) 0 2 (v 12 + 2), .sl 24389 (v 6) 0 2 (v 11 + 2), q 20, q 0, q 0, q 0, q 0, .sl 24473 (v 5) 0 0 (0), .sl 24496 (v 4) 0 1 (v 10 + 1), zs, zs, bf, bf, bt, q 0, q 0, q 20, q 0, q 0, q 0, q 0, .sl 24570 (v 3) 0 0 (0), .sl 24593 (v 2) 0 1 (v 9 + 1), zs, zs, bt, bf, bt, q 0, q 0, zs, zs, zs, zs, q 2, q 1, q 3, q (-1), q 0, .p 841 (v 1) 0, bf, bt, q 2]⟩)]
 next := 25062
 gr := fun v => [(24593, 1, (v 9)), (24496, 1, (v 10)), (24389, 24, (v 11)), (976, 28, (v 12))]
 us := []
 ns := [861, 976, 24389, 24473, 24496, 24570, 24593, 841, 847]
 sv := fun _ _ => .s (.at (bt))
 mem' := fun v _ => [(861, some ⟨(v 8), 47, [q 20, q 1, q 10, q 40, q 5, q 3, .sl 976 (v 7) 0 2 (v 12 + 2), .sl 24389 (v 6) 0 2 (v 11 + 2), q 20, q 0, q 0, q 0, q 0, .sl 24473 (v 5) 0 0 (0), .sl 24496 (v 4) 0 1 (v 10 + 1), zs, zs, bf, bf, bt, q 0, q 0, q 20, q 0, q 0, q 0, q 0, .sl 24570 (v 3) 0 0 (0), .sl 24593 (v 2) 0 1 (v 9 + 1), zs, zs, bt, bf, bt, q 0, q 0, zs, zs, zs, zs, q 2, q 1, q 3, q (-1), q 0, .p 841 (v 1) 0, bf, bt, q 2]⟩),
 (976, some ⟨(v 7), 104, wide [.k (.string ⟨#[102, 105, 101, 108, 100]⟩), q 1, q 0, q 0, q 0, q 0, q 0, q 0, q 0, q 0, q 0, zs, zs, q 1, .k (.string ⟨#[102, 111, 120]⟩), q 2, q 1, q 0, q 0, q 0, q 0, q 0, q 2, q 1, q 1, zs, zs, q 1] (v 12) 14⟩),
 (24389, some ⟨(v 6), 91, wide [q 1, q 1, q 0, q 0, q 0, q 0, q 0, q 0, q 0, bf, bf, bf, q 2, q 0, q 1, q 0, q 0, q 0, q 0, q 0, q 0, bf, bf, bf] (v 11) 12⟩),
 (24473, some ⟨(v 5), 3, []⟩),
 (24496, some ⟨(v 4), 3, wide [q 1] (v 10) 1⟩),
 (24570, some ⟨(v 3), 3, []⟩),
 (24593, some ⟨(v 2), 3, wide [q 2] (v 9) 1⟩),
 (841, some ⟨(v 1), 173, [bt, .sl 847 (v 0) 0 0 (0), q 0]⟩),
 (847, some ⟨(v 0), 303, []⟩)]
 next' := 25105
 gr' := fun v _ => [(976, 28, (v 12)), (24389, 24, (v 11)), (24496, 1, (v 10)), (24593, 1, (v 9))]
theorem yc : pc9.Ok cfgN mR 60 300 14 4000 := ⟨fun v k => by kernel_rfl⟩
end Go.Proofs.YtocfkcilcfojiaaGreatDoor
