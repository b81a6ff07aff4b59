/- For all arguments the law StackFulls returns true, and its arguments read as before.
Conditions: none of ours. -/
import Derived.Test.YtieaihgbjikggaaGreatM17
import Derived.Test.YtieaihgbjikggaaGreatC51
namespace Go.Proofs.YtieaihgbjikggaaGreat
open Go Go.Sx Go.ChangeShapes Go.WideShapes Go.ChangeAt Go.RowKit
set_option maxRecDepth 100000
set_option maxHeartbeats 1000000
theorem fulls_lifted (os : Os) (started : os.Started) (H : Type) (enc : TypeId × Value → H) :
  ReturnsInHanded {} Tryz.checked os 6 .any (Rows.stackFullsSpec.pre6 enc Tryz.prog Tryz.f6 [] false)
   (Rows.stackFullsSpec.post enc Tryz.prog Tryz.f6 false true false false) := by
 refine returnsInHanded_of_change (C := Tryz.checked) own started (by kernel_rfl) Tryz.func6 ?_ ?_
 ·obtain ⟨w, tape, i, q1, q2, q3, q4, ⟨⟨q5, _⟩, q6⟩, q7⟩ := ChangeSpec.witness_shaped (enc := enc) (C := Tryz.checked) (os := os) (f := 6) (fn := Tryz.f6) (s := Rows.stackFullsSpec) (conds := []) (apart := false) (X := fun _ _ => True) false (World.doorLaid Tryz.prog 400 os) #[iV 0] 8 rfl
   (World.shaped_of_RefB (by kernel_rfl) (by kernel_rfl)) (by kernel_rfl) (by kernel_rfl) (by kernel_rfl) trivial
  exact ⟨w, tape, i, q1, q2, q3, q4, ⟨q5, q6⟩, q7⟩
 intro W base args ds gs before hval0 hW _ _
 have hval : ∀ (j : Nat) t v, Tryz.f6.params[j]? = some t → args[j]? = some v → Value.okWide Tryz.prog W .any base t v := hval0
 have hW' := hW
 obtain ⟨p, q, hA0, hV, rfl, hfz, hnd⟩ := hW
 have hA : DataW.TrodAll enc Tryz.prog W 0 (fun _ => true) true Tryz.f6.params.toList args.toList ds p := hA0
 rw [Tryz.params6] at hA hval
 obtain ⟨v0, d0, rfl, rfl, h0⟩ := trodAll_one hA
 obtain ⟨rfl, rfl⟩ := trodVars_none hV
 obtain ⟨n0, rfl, rfl, rfl, wf0⟩ := open_int Tryz.underlying3 (hval 0 3 v0 rfl rfl) h0
 refine law_calls (tb := 4) (fulls_true n0) hW' rfl rfl rfl Tryz.underlying4 laidOut ?_
 intro t ht
 have ht : t ∈ Tryz.f6.params.toList := ht
 rw [Tryz.params6] at ht
 have hall : ([3].all fun t => Tryz.prog.readableRec t && Nat.blt t Tryz.prog.types.size) = true := by kernel_rfl
 have := List.all_eq_true.1 hall t (by simpa using ht)
 rw [Bool.and_eq_true] at this
 exact ⟨this.1, Nat.le_of_ble_eq_true this.2⟩
theorem fulls_said : Rows.StackFullsSaid :=
 OpenClaim.holds_of_wide 6 Tryz.f6 rfl rfl rfl rfl rfl rfl rfl ⟨rfl, rfl, rfl, rfl, rfl⟩ rfl rfl rfl rfl rfl (by kernel_rfl) Tryz.func6 (by kernel_rfl)
  (of_decide_eq_true (by kernel_rfl)) (by unfold Func.isWrapper; rw [if_neg (of_decide_eq_false (by kernel_rfl))]; exact ⟨rfl, rfl⟩)
  (fun os started H enc _ => fulls_lifted os started H enc)
#print axioms fulls_said
end Go.Proofs.YtieaihgbjikggaaGreat
