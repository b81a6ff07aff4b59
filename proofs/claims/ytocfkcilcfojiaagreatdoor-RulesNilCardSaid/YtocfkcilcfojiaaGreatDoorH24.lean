/- A piece of the examples' run, reckoned by itself: call 15, zeitnot/zeitnotlaw25.answers. -/
import Derived.Test.YtocfkcilcfojiaaGreatDoorC6
namespace Go.Proofs.YtocfkcilcfojiaaGreatDoor
open Go Go.Sx
set_option maxRecDepth 100000
set_option maxHeartbeats 1000000
def pc15 : Pc where
 f := 42
 locs := [.r 27628, .r 27622, .r 46160, .r 46326, .r 46280, .r 46862, .r 46237, .r 46134, .r 27757, .r 27642, .c 46326, .c 46280, .c 46862, .c 46134, .c 27757]
 args := fun v => [.at (.p 27642 (v 9) 0), .at (q 1), .at (q 0), .at (q 0), .at (q 0)]
 mem := fun v => [(27628, some ⟨(v 0), 303, []⟩),
 (27622, some ⟨(v 1), 173, [bt, .sl 27628 (v 0) 0 0 (0), q 0]⟩),
 (46160, some ⟨(v 2), 125, []⟩),
 (46326, some ⟨(v 3), 3, wide [q 3] (v 10) 1⟩),
 (46280, some ⟨(v 4), 3, wide [q 0] (v 11) 1⟩),
 (46862, some ⟨(v 5), 3, wide [q 1, q 2] (v 12) 1⟩),
 (46237, some ⟨(v 6), 3, []⟩),
 (46134, some ⟨(v 7), 91, wide [q 1, q 0, q 0, q 0, q 0, q 0, q 0, q 0, q 0, bt, bt, bf, q 2, q 1, q 0, q 0, q 0, q 0, q 0, q 0, q 0, bf, bt, bf, q 3, q 0, q 1, q 0, q 0, q 0, q 0, q 0, q 0, bf, bf, bf] (v 13) 12⟩),
 (27757, some ⟨(v 8), 104, wide [.k (.string ⟨#[102, 105, 101, 108, 100]⟩), q 1, q 0, q 0, q 0, q 0, q 0, q 0, q 0, q 0, q 0, zs, zs, q 1, .k (.string ⟨#[102, 111, 120]⟩), q 2, q 1, q 0, q 0, q 0, q 0, q 0, q 2, q 1, q 1, zs, zs, q 1] (v 14) 14⟩),
 (27642, some ⟨(v 9), 47, [q 20, q 1, q 10, q 40, q 5, q 3, .sl 27757 (v 8) 0 2 (v 14 + 2), .sl 46134 (v 7) 0 3 (v 13 + 3), q 20, q 0, q 0, q 0, q 0, zs, .sl 46237 (v 6) 0 0 (0), .sl 46862 (v 5) 0 2 (v 12 + 2), .sl 46280 (v 4) 0 0 (v 11 + 1), bf, bt, bf, q 0, q 2, q 20, q 0, q 0, q 0, q 0, .sl 46326 (v 3) 0 1 (v 10 + 1), zs, zs, zs, bf, bf, bf, q 0, q 0, .sl 46160 (v 2) 0 0 (0), zs, zs, zs, q 1, q 0, q 4, q (-1), q 0, .p 27622 (v 1) 0, bf, bf, q 0]⟩)]
 next := 48699
 gr := fun v => [(46326, 1, (v 10)), (46280, 1, (v 11)), (46862, 2, (v 12)), (46134, 36, (v 13)), (27757, 28, (v 14))]
 us := []
 ns := [27642, 27757, 46134, 46237, 46862, 46280, 46326, 46160, 27622, 27628]
 sv := fun _ _ => .s (.at (bt))
 mem' := fun v _ => [(27642, some ⟨(v 9), 47, [q 20, q 1, q 10, q 40, q 5, q 3, .sl 27757 (v 8) 0 2 (v 14 + 2), .sl 46134 (v 7) 0 3 (v 13 + 3), q 20, q 0, q 0, q 0, q 0, zs, .sl 46237 (v 6) 0 0 (0), .sl 46862 (v 5) 0 2 (v 12 + 2), .sl 46280 (v 4) 0 0 (v 11 + 1), bf, bt, bf, q 0, q 2, q 20, q 0, q 0, q 0, q 0, .sl 46326 (v 3) 0 1 (v 10 + 1), zs, zs, zs, bf, bf, bf, q 0, q 0, .sl 46160 (v 2) 0 0 (0), zs, zs, zs, q 1, q 0, q 5, q (-1), q 0, .p 27622 (v 1) 0, bf, bf, q 0]⟩),
 (27757, some ⟨(v 8), 104, wide [.k (.string ⟨#[102, 105, 101, 108, 100]⟩), q 1, q 0, q 0, q 0, q 0, q 0, q 0, q 0, q 0, q 0, zs, zs, q 1, .k (.string ⟨#[102, 111, 120]⟩), q 2, q 1, q 0, q 0, q 0, q 0, q 0, q 2, q 1, q 1, zs, zs, q 1] (v 14) 14⟩),
 (46134, some ⟨(v 7), 91, wide [q 1, q 0, q 0, q 0, q 0, q 0, q 0, q 0, q 0, bt, bt, bf, q 2, q 1, q 0, q 0, q 0, q 0, q 0, q 0, q 0, bf, bt, bf, q 3, q 0, q 1, q 0, q 0, q 0, q 0, q 0, q 0, bf, bf, bf] (v 13) 12⟩),
 (46237, some ⟨(v 6), 3, []⟩),
 (46862, some ⟨(v 5), 3, wide [q 1, q 2] (v 12) 1⟩),
 (46280, some ⟨(v 4), 3, wide [q 0] (v 11) 1⟩),
 (46326, some ⟨(v 3), 3, wide [q 3] (v 10) 1⟩),
 (46160, some ⟨(v 2), 125, []⟩),
 (27622, some ⟨(v 1), 173, [bt, .sl 27628 (v 0) 0 0 (0), q 0]⟩),
 (27628, some ⟨(v 0), 303, []⟩)]
 next' := 51991
 gr' := fun v _ => [(27757, 28, (v 14)), (46134, 36, (v 13)), (46862, 2, (v 12)), (46280, 1, (v 11)), (46326, 1, (v 10))]
theorem xb : pc15.Ok cfgN mR 60 300 14 4000 := ⟨fun v k => by kernel_rfl⟩
end Go.Proofs.YtocfkcilcfojiaaGreatDoor
