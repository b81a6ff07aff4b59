/- A piece of the examples' run, reckoned by itself: call 1, zeitnot/rules.New. -/
import Derived.Test.YtocfkcilcfojiaaGreatDoorC6
namespace Go.Proofs.YtocfkcilcfojiaaGreatDoor
open Go Go.Sx
set_option maxRecDepth 100000
set_option maxHeartbeats 1000000
def pc1 : Pc where
 f := 38
 locs := [.r 6, .r 5, .r 22]
 args := fun v => [.agg [q 20, q 1, q 10, q 40, q 5, q 3], .at (.sl 22 (v 2) 0 2 (2)), .agg [.sl 5 (v 1) 0 1 (1), .sl 6 (v 0) 0 1 (1)], .at (zs)]
 mem := fun v => [(6, some ⟨(v 0), 3, [q 0]⟩),
 (5, some ⟨(v 1), 3, [q 1]⟩),
 (22, some ⟨(v 2), 104, [.k (.string ⟨#[102, 105, 101, 108, 100]⟩), q 1, q 0, q 0, q 0, q 0, q 0, q 0, q 0, q 0, q 0, zs, zs, q 1, .k (.string ⟨#[102, 111, 120]⟩), q 2, q 1, q 0, q 0, q 0, q 0, q 0, q 2, q 1, q 1, zs, zs, q 1]⟩)]
 next := 24
 gr := fun _ => []
 us := [44, 32, 33, 114, 115, 111, 112, 107, 108, 105, 102, 103, 42, 43]
 ns := [847, 841, 2436, 2334, 2256, 2233, 2149, 976, 861, 22, 5, 6]
 sv := fun _ u => .tup [.at (.p 861 (u 0) 0), .at (q 0)]
 mem' := fun v u => [(847, some ⟨(u 1), 303, []⟩),
 (841, some ⟨(u 2), 173, [bt, .sl 847 (u 1) 0 0 (0), q 0]⟩),
 (2436, some ⟨(u 3), 3, wide [q 2] (u 4) 1⟩),
 (2334, some ⟨(u 5), 3, wide [q 2] (u 6) 1⟩),
 (2256, some ⟨(u 7), 3, wide [q 1] (u 8) 1⟩),
 (2233, some ⟨(u 9), 3, []⟩),
 (2149, some ⟨(u 10), 91, wide [q 1, q 1, q 0, q 0, q 0, q 0, q 0, q 0, q 0, bf, bf, bf, q 2, q 0, q 1, q 0, q 0, q 0, q 0, q 0, q 0, bf, bf, bf] (u 11) 12⟩),
 (976, some ⟨(u 12), 104, wide [.k (.string ⟨#[102, 105, 101, 108, 100]⟩), q 1, q 0, q 0, q 0, q 0, q 0, q 0, q 0, q 0, q 0, zs, zs, q 1, .k (.string ⟨#[102, 111, 120]⟩), q 2, q 1, q 0, q 0, q 0, q 0, q 0, q 2, q 1, q 1, zs, zs, q 1] (u 13) 14⟩),
 (861, some ⟨(u 0), 47, [q 20, q 1, q 10, q 40, q 5, q 3, .sl 976 (u 12) 0 2 (u 13 + 2), .sl 2149 (u 10) 0 2 (u 11 + 2), q 20, q 0, q 0, q 0, q 0, .sl 2233 (u 9) 0 0 (0), .sl 2256 (u 7) 0 1 (u 8 + 1), zs, zs, bf, bf, bf, q 0, q 0, q 20, q 0, q 0, q 0, q 0, .sl 2334 (u 5) 0 0 (u 6 + 1), .sl 2436 (u 3) 0 1 (u 4 + 1), zs, zs, bf, bf, bf, q 0, q 0, zs, zs, zs, zs, q 0, q 0, q 0, q (-1), q 0, .p 841 (u 2) 0, bf, bf, q 0]⟩),
 (22, some ⟨(v 2), 104, [.k (.string ⟨#[102, 105, 101, 108, 100]⟩), q 1, q 0, q 0, q 0, q 0, q 0, q 0, q 0, q 0, q 0, zs, zs, q 1, .k (.string ⟨#[102, 111, 120]⟩), q 2, q 1, q 0, q 0, q 0, q 0, q 0, q 2, q 1, q 1, zs, zs, q 1]⟩),
 (5, some ⟨(v 1), 3, [q 1]⟩),
 (6, some ⟨(v 0), 3, [q 0]⟩)]
 next' := 3447
 gr' := fun _ u => [(2436, 1, (u 4)), (2334, 1, (u 6)), (2256, 1, (u 8)), (2149, 24, (u 11)), (976, 28, (u 13))]
theorem yk : pc1.Ok cfgN mR 60 300 14 4000 := ⟨fun v k => by kernel_rfl⟩
end Go.Proofs.YtocfkcilcfojiaaGreatDoor
