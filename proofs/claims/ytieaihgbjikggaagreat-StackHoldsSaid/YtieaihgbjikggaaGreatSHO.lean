/- For all arguments the law StackHolds returns true, and its arguments read as before.
Conditions: none of ours. -/
import Derived.Test.YtieaihgbjikggaaGreatM17
import Derived.Test.YtieaihgbjikggaaGreatP6
namespace Go.Proofs.YtieaihgbjikggaaGreat
open Go Go.Sx Go.ChangeShapes Go.WideShapes Go.ChangeAt Go.RowKit
set_option maxRecDepth 100000
set_option maxHeartbeats 1000000
theorem yW (os : Os) (started : os.Started) (H : Type) (enc : TypeId × Value → H) :
  ReturnsInHanded {} Tryz.checked os 7 .any (Rows.stackHoldsSpec.pre6 enc Tryz.prog Tryz.f7 [] false)
   (Rows.stackHoldsSpec.post enc Tryz.prog Tryz.f7 false true false false) := by
 refine returnsInHanded_of_change (C := Tryz.checked) own started (by kernel_rfl) Tryz.func7 ?_ ?_
 ·obtain ⟨w, tape, i, q1, q2, q3, q4, ⟨⟨q5, _⟩, q6⟩, q7⟩ := ChangeSpec.witness_shaped (enc := enc) (C := Tryz.checked) (os := os) (f := 7) (fn := Tryz.f7) (s := Rows.stackHoldsSpec) (conds := []) (apart := false) (X := fun _ _ => True) false (World.doorLaid Tryz.prog 400 os) #[rZ, zB, .int .u8 0, .int .u8 0, .agg #[iV 0, iV 0, iV 0, iV 0, rZ]] 8 rfl
   (World.shaped_of_RefB (by kernel_rfl) (by kernel_rfl)) (by kernel_rfl) (by kernel_rfl) (by kernel_rfl) trivial
  exact ⟨w, tape, i, q1, q2, q3, q4, ⟨q5, q6⟩, q7⟩
 intro W base args ds gs before hval0 hW _ _
 have hval : ∀ (j : Nat) t v, Tryz.f7.params[j]? = some t → args[j]? = some v → Value.okWide Tryz.prog W .any base t v := hval0
 have hW' := hW
 obtain ⟨p, q, hA0, hV, rfl, hfz, hnd⟩ := hW
 have hA : DataW.TrodAll enc Tryz.prog W 0 (fun _ => true) true Tryz.f7.params.toList args.toList ds p := hA0
 rw [Tryz.params7] at hA hval
 obtain ⟨v0, v1, v2, v3, v4, d0, d1, d2, d3, d4, p0, p1, p2, p3, p4, rfl, rfl, rfl, h0, h1, h2, h3, h4⟩ := BF hA
 obtain ⟨rfl, rfl⟩ := trodVars_none hV
 obtain ⟨k0, hk0⟩ := Dj (ER Tryz.underlying22 sOk (by kernel_rfl) (hval 0 22 v0 rfl rfl) h0)
 obtain ⟨cs1, rfl, hlen1, _, hlf1⟩ := zZ 6 Ik sOk (by kernel_rfl) (by kernel_rfl) (by kernel_rfl) (hval 1 34 v1 rfl rfl) h1
 obtain ⟨w1, b1, rfl, hb1⟩ := EW hlen1 hlf1
 obtain ⟨n2, rfl, rfl, rfl, wf2⟩ := open_int Tryz.underlying5 (hval 2 5 v2 rfl rfl) h2
 obtain ⟨n3, rfl, rfl, rfl, wf3⟩ := open_int Tryz.underlying5 (hval 3 5 v3 rfl rfl) h3
 obtain ⟨cs4, rfl, hlen4, _, hlf4⟩ := zZ 5 rb sOk (by kernel_rfl) (by kernel_rfl) (by kernel_rfl) (hval 4 41 v4 rfl rfl) h4
 obtain ⟨it4, s4, rfl, hs4⟩ := EV hlen4 hlf4
 refine GH (tb := 4) (Cs hk0 hb1 (Kl wf2) (Kl wf3) it4.player it4.id it4.card it4.trig hs4) hW' rfl rfl rfl Tryz.underlying4 JO ?_
 intro t ht
 have ht : t ∈ Tryz.f7.params.toList := ht
 rw [Tryz.params7] at ht
 have hall : ([22, 34, 5, 5, 41].all fun t => Tryz.prog.readableRec t && Nat.blt t Tryz.prog.types.size) = true := by kernel_rfl
 have := List.all_eq_true.1 hall t (by simpa using ht)
 rw [Bool.and_eq_true] at this
 exact ⟨this.1, Nat.le_of_ble_eq_true this.2⟩
theorem holds18_said : Rows.StackHoldsSaid :=
 OpenClaim.holds_of_wide 7 Tryz.f7 rfl rfl rfl rfl rfl rfl rfl ⟨rfl, rfl, rfl, rfl, rfl⟩ rfl rfl rfl rfl rfl (by kernel_rfl) Tryz.func7 (by kernel_rfl)
  (of_decide_eq_true (by kernel_rfl)) (by unfold Func.isWrapper; rw [if_neg (of_decide_eq_false (by kernel_rfl))]; exact ⟨rfl, rfl⟩)
  (fun os started H enc _ => yW os started H enc)
#print axioms holds18_said
end Go.Proofs.YtieaihgbjikggaaGreat
