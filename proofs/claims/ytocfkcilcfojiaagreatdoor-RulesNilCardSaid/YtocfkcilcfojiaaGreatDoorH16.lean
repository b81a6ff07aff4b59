/- A piece of the examples' run, reckoned by itself: call 7, zeitnot/zeitnotlaw25.answers. -/
import Derived.Test.YtocfkcilcfojiaaGreatDoorC6
namespace Go.Proofs.YtocfkcilcfojiaaGreatDoor
open Go Go.Sx
set_option maxRecDepth 100000
set_option maxHeartbeats 1000000
def pc7 : Pc where
 f := 42
 locs := [.r 847, .r 841, .r 9352, .r 9329, .r 9255, .r 9232, .r 9148, .r 976, .r 861, .c 9352, .c 9255, .c 9148, .c 976]
 args := fun v => [.at (.p 861 (v 8) 0), .at (q 1), .at (q 0), .at (q 1), .at (q 0)]
 mem := fun v => [(847, some ⟨(v 0), 303, []⟩),
 (841, some ⟨(v 1), 173, [bt, .sl 847 (v 0) 0 0 (0), q 0]⟩),
 (9352, some ⟨(v 2), 3, wide [q 2] (v 9) 1⟩),
 (9329, some ⟨(v 3), 3, []⟩),
 (9255, some ⟨(v 4), 3, wide [q 1] (v 10) 1⟩),
 (9232, some ⟨(v 5), 3, []⟩),
 (9148, some ⟨(v 6), 91, wide [q 1, q 1, q 0, q 0, q 0, q 0, q 0, q 0, q 0, bf, bf, bf, q 2, q 0, q 1, q 0, q 0, q 0, q 0, q 0, q 0, bf, bf, bf] (v 11) 12⟩),
 (976, some ⟨(v 7), 104, wide [.k (.string ⟨#[102, 105, 101, 108, 100]⟩), q 1, q 0, q 0, q 0, q 0, q 0, q 0, q 0, q 0, q 0, zs, zs, q 1, .k (.string ⟨#[102, 111, 120]⟩), q 2, q 1, q 0, q 0, q 0, q 0, q 0, q 2, q 1, q 1, zs, zs, q 1] (v 12) 14⟩),
 (861, some ⟨(v 8), 47, [q 20, q 1, q 10, q 40, q 5, q 3, .sl 976 (v 7) 0 2 (v 12 + 2), .sl 9148 (v 6) 0 2 (v 11 + 2), q 20, q 0, q 0, q 0, q 0, .sl 9232 (v 5) 0 0 (0), .sl 9255 (v 4) 0 1 (v 10 + 1), zs, zs, bf, bf, bt, q 0, q 0, q 20, q 0, q 0, q 0, q 0, .sl 9329 (v 3) 0 0 (0), .sl 9352 (v 2) 0 1 (v 9 + 1), zs, zs, bf, bf, bt, q 0, q 0, zs, zs, zs, zs, q 1, q 0, q 4, q (-1), q 0, .p 841 (v 1) 0, bf, bf, q 0]⟩)]
 next := 14264
 gr := fun v => [(9352, 1, (v 9)), (9255, 1, (v 10)), (9148, 24, (v 11)), (976, 28, (v 12))]
 us := [156, 157, 154, 151, 152, 149, 146, 147]
 ns := [17076, 17053, 16979, 16956, 16872, 861, 976, 9148, 9232, 9255, 9329, 9352, 841, 847]
 sv := fun _ _ => .s (.at (bt))
 mem' := fun v u => [(17076, some ⟨(u 0), 3, wide [q 2] (u 1) 1⟩),
 (17053, some ⟨(u 2), 3, []⟩),
 (16979, some ⟨(u 3), 3, wide [q 1] (u 4) 1⟩),
 (16956, some ⟨(u 5), 3, []⟩),
 (16872, some ⟨(u 6), 91, wide [q 1, q 1, q 0, q 0, q 0, q 0, q 0, q 0, q 0, bf, bf, bf, q 2, q 0, q 1, q 0, q 0, q 0, q 0, q 0, q 0, bf, bf, bf] (u 7) 12⟩),
 (861, some ⟨(v 8), 47, [q 20, q 1, q 10, q 40, q 5, q 3, .sl 976 (v 7) 0 2 (v 12 + 2), .sl 16872 (u 6) 0 2 (u 7 + 2), q 20, q 0, q 0, q 0, q 0, .sl 16956 (u 5) 0 0 (0), .sl 16979 (u 3) 0 1 (u 4 + 1), zs, zs, bf, bf, bt, q 0, q 0, q 20, q 0, q 0, q 0, q 0, .sl 17053 (u 2) 0 0 (0), .sl 17076 (u 0) 0 1 (u 1 + 1), zs, zs, bf, bf, bt, q 0, q 0, zs, zs, zs, zs, q 1, q 0, q 9, q (-1), q 0, .p 841 (v 1) 0, bf, bf, q 0]⟩),
 (976, some ⟨(v 7), 104, wide [.k (.string ⟨#[102, 105, 101, 108, 100]⟩), q 1, q 0, q 0, q 0, q 0, q 0, q 0, q 0, q 0, q 0, zs, zs, q 1, .k (.string ⟨#[102, 111, 120]⟩), q 2, q 1, q 0, q 0, q 0, q 0, q 0, q 2, q 1, q 1, zs, zs, q 1] (v 12) 14⟩),
 (9148, some ⟨(v 6), 91, wide [q 1, q 1, q 0, q 0, q 0, q 0, q 0, q 0, q 0, bf, bf, bf, q 2, q 0, q 1, q 0, q 0, q 0, q 0, q 0, q 0, bf, bf, bf] (v 11) 12⟩),
 (9232, some ⟨(v 5), 3, []⟩),
 (9255, some ⟨(v 4), 3, wide [q 1] (v 10) 1⟩),
 (9329, some ⟨(v 3), 3, []⟩),
 (9352, some ⟨(v 2), 3, wide [q 2] (v 9) 1⟩),
 (841, some ⟨(v 1), 173, [bt, .sl 847 (v 0) 0 0 (0), q 0]⟩),
 (847, some ⟨(v 0), 303, []⟩)]
 next' := 18835
 gr' := fun v u => [(17076, 1, (u 1)), (16979, 1, (u 4)), (16872, 24, (u 7)), (976, 28, (v 12)), (9148, 24, (v 11)), (9255, 1, (v 10)), (9352, 1, (v 9))]
theorem ye : pc7.Ok cfgN mR 60 300 14 4000 := ⟨fun v k => by kernel_rfl⟩
end Go.Proofs.YtocfkcilcfojiaaGreatDoor
