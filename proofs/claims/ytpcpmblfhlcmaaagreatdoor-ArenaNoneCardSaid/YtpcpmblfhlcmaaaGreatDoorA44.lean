/- The bare row of ArenaNone. -/
import Derived.Test.YtpcpmblfhlcmaaaGreatDoorA34
import Derived.Test.YtpcpmblfhlcmaaaGreatDoorA39
namespace Go.Proofs.YtpcpmblfhlcmaaaGreatDoor
open Go Go.Sx Go.ChangeShapes Go.WideShapes Go.ChangeAt Go.RowKit
set_option maxRecDepth 100000
set_option maxHeartbeats 1000000
theorem si : Rows.ArenaNoneSaid :=
 OpenClaim.holds_of_wide 3 Tryz.f3 rfl rfl rfl rfl rfl rfl rfl ⟨rfl, rfl, rfl, rfl, rfl⟩ rfl rfl rfl rfl rfl (by kernel_rfl) Tryz.func3 AK
  (of_decide_eq_true (by kernel_rfl)) (by unfold Func.isWrapper; rw [if_neg (of_decide_eq_false (by kernel_rfl))]; exact ⟨rfl, rfl⟩)
  (fun os started H enc _ => qO os started H enc)
end Go.Proofs.YtpcpmblfhlcmaaaGreatDoor
