/- A piece of the examples' run, reckoned by itself: call 8, zeitnot/zeitnotlaw25.answers. -/
import Derived.Test.YtocfkcilcfojiaaGreatDoorC6
namespace Go.Proofs.YtocfkcilcfojiaaGreatDoor
open Go Go.Sx
set_option maxRecDepth 100000
set_option maxHeartbeats 1000000
def pc8 : Pc where
 f := 42
 locs := [.r 847, .r 841, .r 17076, .r 17053, .r 16979, .r 16956, .r 16872, .r 976, .r 861, .c 17076, .c 16979, .c 16872, .c 976]
 args := fun v => [.at (.p 861 (v 8) 0), .at (q 1), .at (q 0), .at (q 3), .at (q 0)]
 mem := fun v => [(847, some ⟨(v 0), 303, []⟩),
 (841, some ⟨(v 1), 173, [bt, .sl 847 (v 0) 0 0 (0), q 0]⟩),
 (17076, some ⟨(v 2), 3, wide [q 2] (v 9) 1⟩),
 (17053, some ⟨(v 3), 3, []⟩),
 (16979, some ⟨(v 4), 3, wide [q 1] (v 10) 1⟩),
 (16956, some ⟨(v 5), 3, []⟩),
 (16872, some ⟨(v 6), 91, wide [q 1, q 1, q 0, q 0, q 0, q 0, q 0, q 0, q 0, bf, bf, bf, q 2, q 0, q 1, q 0, q 0, q 0, q 0, q 0, q 0, bf, bf, bf] (v 11) 12⟩),
 (976, some ⟨(v 7), 104, wide [.k (.string ⟨#[102, 105, 101, 108, 100]⟩), q 1, q 0, q 0, q 0, q 0, q 0, q 0, q 0, q 0, q 0, zs, zs, q 1, .k (.string ⟨#[102, 111, 120]⟩), q 2, q 1, q 0, q 0, q 0, q 0, q 0, q 2, q 1, q 1, zs, zs, q 1] (v 12) 14⟩),
 (861, some ⟨(v 8), 47, [q 20, q 1, q 10, q 40, q 5, q 3, .sl 976 (v 7) 0 2 (v 12 + 2), .sl 16872 (v 6) 0 2 (v 11 + 2), q 20, q 0, q 0, q 0, q 0, .sl 16956 (v 5) 0 0 (0), .sl 16979 (v 4) 0 1 (v 10 + 1), zs, zs, bf, bf, bt, q 0, q 0, q 20, q 0, q 0, q 0, q 0, .sl 17053 (v 3) 0 0 (0), .sl 17076 (v 2) 0 1 (v 9 + 1), zs, zs, bf, bf, bt, q 0, q 0, zs, zs, zs, zs, q 1, q 0, q 9, q (-1), q 0, .p 841 (v 1) 0, bf, bf, q 0]⟩)]
 next := 18835
 gr := fun v => [(17076, 1, (v 9)), (16979, 1, (v 10)), (16872, 24, (v 11)), (976, 28, (v 12))]
 us := [309, 310, 307, 304, 305, 302, 299, 300]
 ns := [24593, 24570, 24496, 24473, 24389, 861, 976, 16872, 16956, 16979, 17053, 17076, 841, 847]
 sv := fun _ _ => .s (.at (bt))
 mem' := fun v u => [(24593, some ⟨(u 0), 3, wide [q 2] (u 1) 1⟩),
 (24570, some ⟨(u 2), 3, []⟩),
 (24496, some ⟨(u 3), 3, wide [q 1] (u 4) 1⟩),
 (24473, some ⟨(u 5), 3, []⟩),
 (24389, some ⟨(u 6), 91, wide [q 1, q 1, q 0, q 0, q 0, q 0, q 0, q 0, q 0, bf, bf, bf, q 2, q 0, q 1, q 0, q 0, q 0, q 0, q 0, q 0, bf, bf, bf] (u 7) 12⟩),
 (861, some ⟨(v 8), 47, [q 20, q 1, q 10, q 40, q 5, q 3, .sl 976 (v 7) 0 2 (v 12 + 2), .sl 24389 (u 6) 0 2 (u 7 + 2), q 20, q 0, q 0, q 0, q 0, .sl 24473 (u 5) 0 0 (0), .sl 24496 (u 3) 0 1 (u 4 + 1), zs, zs, bf, bf, bt, q 0, q 0, q 20, q 0, q 0, q 0, q 0, .sl 24570 (u 2) 0 0 (0), .sl 24593 (u 0) 0 1 (u 1 + 1), zs, zs, bt, bf, bt, q 0, q 0, zs, zs, zs, zs, q 2, q 1, q 3, q (-1), q 0, .p 841 (v 1) 0, bf, bt, q 2]⟩),
 (976, some ⟨(v 7), 104, wide [.k (.string ⟨#[102, 105, 101, 108, 100]⟩), q 1, q 0, q 0, q 0, q 0, q 0, q 0, q 0, q 0, q 0, zs, zs, q 1, .k (.string ⟨#[102, 111, 120]⟩), q 2, q 1, q 0, q 0, q 0, q 0, q 0, q 2, q 1, q 1, zs, zs, q 1] (v 12) 14⟩),
 (16872, some ⟨(v 6), 91, wide [q 1, q 1, q 0, q 0, q 0, q 0, q 0, q 0, q 0, bf, bf, bf, q 2, q 0, q 1, q 0, q 0, q 0, q 0, q 0, q 0, bf, bf, bf] (v 11) 12⟩),
 (16956, some ⟨(v 5), 3, []⟩),
 (16979, some ⟨(v 4), 3, wide [q 1] (v 10) 1⟩),
 (17053, some ⟨(v 3), 3, []⟩),
 (17076, some ⟨(v 2), 3, wide [q 2] (v 9) 1⟩),
 (841, some ⟨(v 1), 173, [bt, .sl 847 (v 0) 0 0 (0), q 0]⟩),
 (847, some ⟨(v 0), 303, []⟩)]
 next' := 25017
 gr' := fun v u => [(24593, 1, (u 1)), (24496, 1, (u 4)), (24389, 24, (u 7)), (976, 28, (v 12)), (16872, 24, (v 11)), (16979, 1, (v 10)), (17076, 1, (v 9))]
theorem yd : pc8.Ok cfgN mR 60 300 14 4000 := ⟨fun v k => by kernel_rfl⟩
end Go.Proofs.YtocfkcilcfojiaaGreatDoor
