/- For every result and string the law ResultTexts returns true, and its arguments read as before.
Conditions: none of ours. The package-level variables result.outcomes and result.reasons hold what the program's own text lays in them (the card ties that). -/
import Derived.Test.YtafnobmndgjeaaaDoorR1O
import Derived.Test.YtafnobmndgjeaaaDoorR1J
namespace Go.Proofs.YtafnobmndgjeaaaDoor
open Go Go.Sx Go.ChangeShapes Go.WideShapes Go.ChangeAt Go.RowKit
set_option maxRecDepth 100000

theorem leaves40 : leaves Tryd.prog 5 40 = some [38, 35] := by kernel_rfl
theorem texts_lifted (os : Os) (started : os.Started) (H : Type) (enc : TypeId × Value → H) :
    ReturnsInHanded {} Tryd.checked os 5 .any (fun w args => (Rows.resultTextsSpec.pre enc Tryd.prog Tryd.f5 [] false w args ∧ laidMetH Tryd.prog laid2 w) ∧ sizedMet enc Tryd.prog Tryd.f5 (OpenSpec.ofChange Rows.resultTextsSpec) false w args)
      (Rows.resultTextsSpec.post enc Tryd.prog Tryd.f5 false true false false) := by
  refine returnsInHanded_of_change_and (C := Tryd.checked) (X := fun w _ => laidMetH Tryd.prog laid2 w) (fun _ _ _ hh h => h.of_heap hh) own started (by kernel_rfl) Tryd.func5
    (ChangeSpec.witness_shaped (enc := enc) (C := Tryd.checked) (os := os) (X := fun w _ => laidMetH Tryd.prog laid2 w) false (World.doorLaid Tryd.prog 400 os) #[.agg #[I 0, I 0], Str []] 8 rfl
      (World.shaped_of_RefB (by kernel_rfl) (by kernel_rfl)) (by kernel_rfl) (by kernel_rfl) (by kernel_rfl) (door_met os _)) ?_
  intro W base args ds gs before hval0 hW _ _ hL _
  have hval : ∀ (j : Nat) t v, Tryd.f5.params[j]? = some t → args[j]? = some v → Value.okWide Tryd.prog W .any base t v := hval0
  have hW' := hW
  obtain ⟨p, q, hA0, hV, rfl, hfz, hnd⟩ := hW
  have hA : DataW.TrodAll enc Tryd.prog W 0 (fun _ => true) true Tryd.f5.params.toList args.toList ds p := hA0
  rw [Tryd.params5] at hA hval
  obtain ⟨v0, v1, d0, d1, p0, p1, rfl, rfl, rfl, h0, h1⟩ := trodAll_two hA
  obtain ⟨rfl, rfl⟩ := trodVars_none hV
  obtain ⟨cs, rfl, hlen, _, hlf⟩ := agg_leaves 5 leaves40 sOk (by kernel_rfl) (by kernel_rfl) (by kernel_rfl) (hval 0 40 v0 rfl rfl) h0
  obtain ⟨s, rfl, rfl, rfl, hs⟩ := Go.ChangeMaps.open_string Tryd.underlying9 (hval 1 9 v1 rfl rfl) h1
  obtain ⟨x0, e0, _⟩ := (hlf 0 38 rfl).int Tryd.underlying38
  obtain ⟨x1, e1, _⟩ := (hlf 1 35 rfl).int Tryd.underlying35
  have hcs : cs = [g cs 0, g cs 1] := by
    rcases cs with _ | ⟨a, _ | ⟨b, _ | ⟨x, r⟩⟩⟩ <;> simp at hlen
    rfl
  rw [e0, e1] at hcs
  subst hcs
  have h5 := s5 (glob_of hL) x0 x1 s.data.toList
  rw [← str_of] at h5
  refine law_calls (tb := 4) h5 hW' rfl rfl rfl Tryd.underlying4 laidOut ?_
  intro t ht
  have ht : t ∈ Tryd.f5.params.toList := ht
  rw [Tryd.params5] at ht
  have hall : ([40, 9].all fun t => Tryd.prog.readableRec t && Nat.blt t Tryd.prog.types.size) = true := by kernel_rfl
  have := List.all_eq_true.1 hall t (by simpa using ht)
  rw [Bool.and_eq_true] at this
  exact ⟨this.1, Nat.le_of_ble_eq_true this.2⟩
theorem texts_holds : Rows.ResultTextsSaid :=
  OpenClaim.holds_of_wide 5 Tryd.f5 rfl rfl rfl rfl rfl rfl rfl ⟨rfl, rfl, rfl, rfl, rfl⟩ rfl rfl rfl rfl rfl (by kernel_rfl) Tryd.func5 (by kernel_rfl)
    (of_decide_eq_true (by kernel_rfl)) (by unfold Func.isWrapper; rw [if_neg (of_decide_eq_false (by kernel_rfl))]; exact ⟨rfl, rfl⟩)
    (fun os started H enc _ => texts_lifted os started H enc)
theorem texts_card : Rows.ResultTextsCardSaid :=
  Claim7.holds_tied_plain_at .later [] [.widerDeep, .widerDeep] true (true, "7e2016211b7b368e8f645c90f1c12f1c242191c49ef0037c278f0e69b3e7ee23") false
    texts_holds (fun _ h => by cases h) (by kernel_rfl) (fun _ h => by cases h) resultTexts_row_tie rfl ⟨rfl, rfl⟩ (by kernel_rfl) rfl
    (fun f fn hf hfn => by
      obtain rfl : f = 5 := Option.some.inj ((show Tryd.prog.funcNamed "zeitnot/zeitnotlaw26.ResultTexts" = some 5 by kernel_rfl).symm.trans hf) |>.symm
      obtain rfl : fn = Tryd.f5 := (Option.some.inj (Tryd.func5.symm.trans hfn)).symm
      exact ⟨by kernel_rfl, fun j t ht => by
        rw [Tryd.params5] at ht
        have hm : t ∈ [40, 9] := by simpa using Array.mem_of_getElem? ht
        have hall : ([40, 9].all fun u => !Tryd.prog.wantsStandIn u) = true := by kernel_rfl
        exact (show Tryd.prog.wantsStandIn t = false by simpa using List.all_eq_true.1 hall t hm)⟩)
    (by kernel_rfl)
#print axioms texts_card
end Go.Proofs.YtafnobmndgjeaaaDoor
