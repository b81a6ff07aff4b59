/- The law RulesNil, lifted. -/
import Derived.Test.YtocfkcilcfojiaaGreatDoorH33
namespace Go.Proofs.YtocfkcilcfojiaaGreatDoor
open Go Go.Sx Go.ChangeShapes Go.WideShapes Go.ChangeAt Go.RowKit
set_option maxRecDepth 100000
set_option maxHeartbeats 1000000
theorem pU (os : Os) (started : os.Started) (H : Type) (enc : TypeId × Value → H) :
  ReturnsInHanded {} Tryz.checked os 3 .any (fun w args => (Rows.rulesNilSpec.pre enc Tryz.prog Tryz.f3 [] false w args ∧ laidMetH Tryz.prog mf w) ∧ sizedMet enc Tryz.prog Tryz.f3 (OpenSpec.ofChange Rows.rulesNilSpec) false w args)
   (Rows.rulesNilSpec.post enc Tryz.prog Tryz.f3 false true false false) := by
 refine returnsInHanded_of_change_and (C := Tryz.checked) (X := fun w _ => laidMetH Tryz.prog mf w) (fun _ _ _ hh h => h.of_heap hh) yY started (by kernel_rfl) Tryz.func3
  (ChangeSpec.witness_shaped (enc := enc) (C := Tryz.checked) (os := os) (X := fun w _ => laidMetH Tryz.prog mf w) false (World.laidAll Tryz.prog os mf) mL 8 (World.laidAll_os _ _ _)
   (vk os _) (xq os) (xp os H enc) (xo os H enc)
   (by rw [MakeChecks.laidMetH_plain _ _ _ (by kernel_rfl)]; exact yM os _)) ?_
 intro W base args ds gs before hval0 hW _ _ hL _
 have hval : ∀ (j : Nat) t v, Tryz.f3.params[j]? = some t → args[j]? = some v → Value.okWide Tryz.prog W .any base t v := hval0
 have hW' := hW
 obtain ⟨p, q, hA0, hV, rfl, hfz, hnd⟩ := hW
 have hA : DataW.TrodAll enc Tryz.prog W 0 (fun _ => true) true Tryz.f3.params.toList args.toList ds p := hA0
 rw [Tryz.params3] at hA hval
 obtain ⟨v0, d0, rfl, rfl, h0⟩ := trodAll_one hA
 obtain ⟨rfl, rfl⟩ := trodVars_none hV
 obtain ⟨cs0, rfl, hlen0, _, hlf0⟩ := tc 8 uo yX (by kernel_rfl) (by kernel_rfl) (by kernel_rfl) (hval 0 28 v0 rfl rfl) h0
 obtain ⟨w, k, x, y, n, r, b0, b1, rfl⟩ := vx hlen0 hlf0
 refine uq (tb := 4) (sN (vK hL) w k x y n r b0 b1) hW' rfl rfl rfl Tryz.underlying4 vF ?_
 intro t ht
 have ht : t ∈ Tryz.f3.params.toList := ht
 rw [Tryz.params3] at ht
 have hall : ([28].all fun t => Tryz.prog.readableRec t && Nat.blt t Tryz.prog.types.size) = true := by kernel_rfl
 have := List.all_eq_true.1 hall t (by simpa using ht)
 rw [Bool.and_eq_true] at this
 exact ⟨this.1, Nat.le_of_ble_eq_true this.2⟩
end Go.Proofs.YtocfkcilcfojiaaGreatDoor
