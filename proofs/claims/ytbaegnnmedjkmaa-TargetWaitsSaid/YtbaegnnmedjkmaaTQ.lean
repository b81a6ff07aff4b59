/- For all arguments the law TargetWaits returns true, and its arguments read as before.
Conditions: none of ours. -/
import Derived.Test.YtbaegnnmedjkmaaM17
import Derived.Test.YtbaegnnmedjkmaaC60
namespace Go.Proofs.Ytbaegnnmedjkmaa
open Go Go.Sx Go.ChangeShapes Go.WideShapes Go.ChangeAt Go.RowKit
set_option maxRecDepth 100000
set_option maxHeartbeats 1000000
theorem waits_lifted (os : Os) (started : os.Started) (H : Type) (enc : TypeId × Value → H) :
  ReturnsInHanded {} Try.checked os 4 .any (Rows.targetWaitsSpec.pre6 enc Try.prog Try.f4 [] false)
   (Rows.targetWaitsSpec.post enc Try.prog Try.f4 false true false false) := by
 refine returnsInHanded_of_change (C := Try.checked) own started (by kernel_rfl) Try.func4 ?_ ?_
 ·obtain ⟨w, tape, i, q1, q2, q3, q4, ⟨⟨q5, _⟩, q6⟩, q7⟩ := ChangeSpec.witness_shaped (enc := enc) (C := Try.checked) (os := os) (f := 4) (fn := Try.f4) (s := Rows.targetWaitsSpec) (conds := []) (apart := false) (X := fun _ _ => True) false (World.doorLaid Try.prog 400 os) #[.int .u8 0, .int .u8 0, iV 0, .int .u8 0] 8 rfl
   (World.shaped_of_RefB (by kernel_rfl) (by kernel_rfl)) (by kernel_rfl) (by kernel_rfl) (by kernel_rfl) trivial
  exact ⟨w, tape, i, q1, q2, q3, q4, ⟨q5, q6⟩, q7⟩
 intro W base args ds gs before hval0 hW _ _
 have hval : ∀ (j : Nat) t v, Try.f4.params[j]? = some t → args[j]? = some v → Value.okWide Try.prog W .any base t v := hval0
 have hW' := hW
 obtain ⟨p, q, hA0, hV, rfl, hfz, hnd⟩ := hW
 have hA : DataW.TrodAll enc Try.prog W 0 (fun _ => true) true Try.f4.params.toList args.toList ds p := hA0
 rw [Try.params4] at hA hval
 obtain ⟨v0, v1, v2, v3, d0, d1, d2, d3, p0, p1, p2, p3, rfl, rfl, rfl, h0, h1, h2, h3⟩ := trodAll_four hA
 obtain ⟨rfl, rfl⟩ := trodVars_none hV
 obtain ⟨n0, rfl, rfl, rfl, wf0⟩ := open_int Try.underlying5 (hval 0 5 v0 rfl rfl) h0
 obtain ⟨n1, rfl, rfl, rfl, wf1⟩ := open_int Try.underlying5 (hval 1 5 v1 rfl rfl) h1
 obtain ⟨n2, rfl, rfl, rfl, wf2⟩ := open_int Try.underlying43 (hval 2 43 v2 rfl rfl) h2
 obtain ⟨n3, rfl, rfl, rfl, wf3⟩ := open_int Try.underlying5 (hval 3 5 v3 rfl rfl) h3
 refine law_calls (tb := 4) (waits_true (wf_u8 wf0) (wf_u8 wf1) n2 (wf_u8 wf3)) hW' rfl rfl rfl Try.underlying4 laidOut ?_
 intro t ht
 have ht : t ∈ Try.f4.params.toList := ht
 rw [Try.params4] at ht
 have hall : ([5, 5, 43, 5].all fun t => Try.prog.readableRec t && Nat.blt t Try.prog.types.size) = true := by kernel_rfl
 have := List.all_eq_true.1 hall t (by simpa using ht)
 rw [Bool.and_eq_true] at this
 exact ⟨this.1, Nat.le_of_ble_eq_true this.2⟩
theorem waits_said : Rows.TargetWaitsSaid :=
 OpenClaim.holds_of_wide 4 Try.f4 rfl rfl rfl rfl rfl rfl rfl ⟨rfl, rfl, rfl, rfl, rfl⟩ rfl rfl rfl rfl rfl (by kernel_rfl) Try.func4 (by kernel_rfl)
  (of_decide_eq_true (by kernel_rfl)) (by unfold Func.isWrapper; rw [if_neg (of_decide_eq_false (by kernel_rfl))]; exact ⟨rfl, rfl⟩)
  (fun os started H enc _ => waits_lifted os started H enc)
#print axioms waits_said
end Go.Proofs.Ytbaegnnmedjkmaa
