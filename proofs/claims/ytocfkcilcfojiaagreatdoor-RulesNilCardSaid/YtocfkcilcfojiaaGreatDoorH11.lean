/- A piece of the examples' run, reckoned by itself: call 2, zeitnot/zeitnotlaw25.asks. -/
import Derived.Test.YtocfkcilcfojiaaGreatDoorC6
namespace Go.Proofs.YtocfkcilcfojiaaGreatDoor
open Go Go.Sx
set_option maxRecDepth 100000
set_option maxHeartbeats 1000000
def pc2 : Pc where
 f := 41
 locs := [.r 847, .r 841, .r 2436, .r 2334, .r 2256, .r 2233, .r 2149, .r 976, .r 861, .r 3451, .c 2436, .c 2334, .c 2256, .c 2149, .c 976]
 args := fun v => [.at (.p 861 (v 8) 0), .at (q 0), .at (q 1), .at (.sl 3451 (v 9) 0 2 (2))]
 mem := fun v => [(847, some ⟨(v 0), 303, []⟩),
 (841, some ⟨(v 1), 173, [bt, .sl 847 (v 0) 0 0 (0), q 0]⟩),
 (2436, some ⟨(v 2), 3, wide [q 2] (v 10) 1⟩),
 (2334, some ⟨(v 3), 3, wide [q 2] (v 11) 1⟩),
 (2256, some ⟨(v 4), 3, wide [q 1] (v 12) 1⟩),
 (2233, some ⟨(v 5), 3, []⟩),
 (2149, some ⟨(v 6), 91, wide [q 1, q 1, q 0, q 0, q 0, q 0, q 0, q 0, q 0, bf, bf, bf, q 2, q 0, q 1, q 0, q 0, q 0, q 0, q 0, q 0, bf, bf, bf] (v 13) 12⟩),
 (976, some ⟨(v 7), 104, wide [.k (.string ⟨#[102, 105, 101, 108, 100]⟩), q 1, q 0, q 0, q 0, q 0, q 0, q 0, q 0, q 0, q 0, zs, zs, q 1, .k (.string ⟨#[102, 111, 120]⟩), q 2, q 1, q 0, q 0, q 0, q 0, q 0, q 2, q 1, q 1, zs, zs, q 1] (v 14) 14⟩),
 (861, some ⟨(v 8), 47, [q 20, q 1, q 10, q 40, q 5, q 3, .sl 976 (v 7) 0 2 (v 14 + 2), .sl 2149 (v 6) 0 2 (v 13 + 2), q 20, q 0, q 0, q 0, q 0, .sl 2233 (v 5) 0 0 (0), .sl 2256 (v 4) 0 1 (v 12 + 1), zs, zs, bf, bf, bf, q 0, q 0, q 20, q 0, q 0, q 0, q 0, .sl 2334 (v 3) 0 0 (v 11 + 1), .sl 2436 (v 2) 0 1 (v 10 + 1), zs, zs, bf, bf, bf, q 0, q 0, zs, zs, zs, zs, q 0, q 0, q 0, q (-1), q 0, .p 841 (v 1) 0, bf, bf, q 0]⟩),
 (3451, some ⟨(v 9), 22, [q 2, q 3]⟩)]
 next := 3476
 gr := fun v => [(2436, 1, (v 10)), (2334, 1, (v 11)), (2256, 1, (v 12)), (2149, 24, (v 13)), (976, 28, (v 14))]
 us := []
 ns := [3451, 861, 976, 2149, 2233, 2256, 2334, 2436, 841, 847]
 sv := fun _ _ => .s (.at (bt))
 mem' := fun v _ => [(3451, some ⟨(v 9), 22, [q 2, q 3]⟩),
 (861, some ⟨(v 8), 47, [q 20, q 1, q 10, q 40, q 5, q 3, .sl 976 (v 7) 0 2 (v 14 + 2), .sl 2149 (v 6) 0 2 (v 13 + 2), q 20, q 0, q 0, q 0, q 0, .sl 2233 (v 5) 0 0 (0), .sl 2256 (v 4) 0 1 (v 12 + 1), zs, zs, bf, bf, bf, q 0, q 0, q 20, q 0, q 0, q 0, q 0, .sl 2334 (v 3) 0 0 (v 11 + 1), .sl 2436 (v 2) 0 1 (v 10 + 1), zs, zs, bf, bf, bf, q 0, q 0, zs, zs, zs, zs, q 0, q 0, q 0, q (-1), q 0, .p 841 (v 1) 0, bf, bf, q 0]⟩),
 (976, some ⟨(v 7), 104, wide [.k (.string ⟨#[102, 105, 101, 108, 100]⟩), q 1, q 0, q 0, q 0, q 0, q 0, q 0, q 0, q 0, q 0, zs, zs, q 1, .k (.string ⟨#[102, 111, 120]⟩), q 2, q 1, q 0, q 0, q 0, q 0, q 0, q 2, q 1, q 1, zs, zs, q 1] (v 14) 14⟩),
 (2149, some ⟨(v 6), 91, wide [q 1, q 1, q 0, q 0, q 0, q 0, q 0, q 0, q 0, bf, bf, bf, q 2, q 0, q 1, q 0, q 0, q 0, q 0, q 0, q 0, bf, bf, bf] (v 13) 12⟩),
 (2233, some ⟨(v 5), 3, []⟩),
 (2256, some ⟨(v 4), 3, wide [q 1] (v 12) 1⟩),
 (2334, some ⟨(v 3), 3, wide [q 2] (v 11) 1⟩),
 (2436, some ⟨(v 2), 3, wide [q 2] (v 10) 1⟩),
 (841, some ⟨(v 1), 173, [bt, .sl 847 (v 0) 0 0 (0), q 0]⟩),
 (847, some ⟨(v 0), 303, []⟩)]
 next' := 4079
 gr' := fun v _ => [(976, 28, (v 14)), (2149, 24, (v 13)), (2256, 1, (v 12)), (2334, 1, (v 11)), (2436, 1, (v 10))]
theorem yj : pc2.Ok cfgN mR 60 300 14 4000 := ⟨fun v k => by kernel_rfl⟩
end Go.Proofs.YtocfkcilcfojiaaGreatDoor
