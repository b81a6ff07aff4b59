/- For all arguments the law StackPlays returns true, and its arguments read as before.
Conditions: none of ours. -/
import Derived.Test.YtieaihgbjikggaaGreatM17
import Derived.Test.YtieaihgbjikggaaGreatC65
namespace Go.Proofs.YtieaihgbjikggaaGreat
open Go Go.Sx Go.ChangeShapes Go.WideShapes Go.ChangeAt Go.RowKit
set_option maxRecDepth 100000
set_option maxHeartbeats 1000000
theorem D9 (os : Os) (started : os.Started) (H : Type) (enc : TypeId × Value → H) :
  ReturnsInHanded {} Tryz.checked os 3 .any (Rows.stackPlaysSpec.pre6 enc Tryz.prog Tryz.f3 [] false)
   (Rows.stackPlaysSpec.post enc Tryz.prog Tryz.f3 false true false false) := by
 refine returnsInHanded_of_change (C := Tryz.checked) own started (by kernel_rfl) Tryz.func3 ?_ ?_
 ·obtain ⟨w, tape, i, q1, q2, q3, q4, ⟨⟨q5, _⟩, q6⟩, q7⟩ := ChangeSpec.witness_shaped (enc := enc) (C := Tryz.checked) (os := os) (f := 3) (fn := Tryz.f3) (s := Rows.stackPlaysSpec) (conds := []) (apart := false) (X := fun _ _ => True) false (World.doorLaid Tryz.prog 400 os) #[uo, zB, uo] 8 rfl
   (World.shaped_of_RefB (by kernel_rfl) (by kernel_rfl)) (by kernel_rfl) (by kernel_rfl) (by kernel_rfl) trivial
  exact ⟨w, tape, i, q1, q2, q3, q4, ⟨q5, q6⟩, q7⟩
 intro W base args ds gs before hval0 hW _ _
 have hval : ∀ (j : Nat) t v, Tryz.f3.params[j]? = some t → args[j]? = some v → Value.okWide Tryz.prog W .any base t v := hval0
 have hW' := hW
 obtain ⟨p, q, hA0, hV, rfl, hfz, hnd⟩ := hW
 have hA : DataW.TrodAll enc Tryz.prog W 0 (fun _ => true) true Tryz.f3.params.toList args.toList ds p := hA0
 rw [Tryz.params3] at hA hval
 obtain ⟨v0, v1, v2, d0, d1, d2, p0, p1, p2, rfl, rfl, rfl, h0, h1, h2⟩ := Ct hA
 obtain ⟨rfl, rfl⟩ := trodVars_none hV
 obtain ⟨k0, hk0⟩ := Fc (Bw Tryz.underlying22 sOk (by kernel_rfl) (hval 0 22 v0 rfl rfl) h0)
 obtain ⟨cs1, rfl, hlen1, _, hlf1⟩ := Ib 6 KL sOk (by kernel_rfl) (by kernel_rfl) (by kernel_rfl) (hval 1 34 v1 rfl rfl) h1
 obtain ⟨w1, b1, rfl, hb1⟩ := GW hlen1 hlf1
 obtain ⟨k2, hk2⟩ := IM (Bw Tryz.underlying35 sOk (by kernel_rfl) (hval 2 35 v2 rfl rfl) h2)
 refine Jp (tb := 4) (Hc hk0 hb1 hk2) hW' rfl rfl rfl Tryz.underlying4 Ms ?_
 intro t ht
 have ht : t ∈ Tryz.f3.params.toList := ht
 rw [Tryz.params3] at ht
 have hall : ([22, 34, 35].all fun t => Tryz.prog.readableRec t && Nat.blt t Tryz.prog.types.size) = true := by kernel_rfl
 have := List.all_eq_true.1 hall t (by simpa using ht)
 rw [Bool.and_eq_true] at this
 exact ⟨this.1, Nat.le_of_ble_eq_true this.2⟩
theorem plays_said : Rows.StackPlaysSaid :=
 OpenClaim.holds_of_wide 3 Tryz.f3 rfl rfl rfl rfl rfl rfl rfl ⟨rfl, rfl, rfl, rfl, rfl⟩ rfl rfl rfl rfl rfl (by kernel_rfl) Tryz.func3 (by kernel_rfl)
  (of_decide_eq_true (by kernel_rfl)) (by unfold Func.isWrapper; rw [if_neg (of_decide_eq_false (by kernel_rfl))]; exact ⟨rfl, rfl⟩)
  (fun os started H enc _ => D9 os started H enc)
#print axioms plays_said
end Go.Proofs.YtieaihgbjikggaaGreat
