/- For every configuration the law ResultPrompts returns true, and its argument reads as before.
Conditions: none of ours. The package-level variables result.outcomes and result.reasons hold what the program's own text lays in them (the card ties that). -/
import Derived.Test.YtafnobmndgjeaaaDoorR1O
namespace Go.Proofs.YtafnobmndgjeaaaDoor
open Go Go.Sx Go.ChangeShapes Go.WideShapes Go.ChangeAt Go.RowKit
set_option maxRecDepth 100000

theorem list6 {cs : List Value} (h : cs.length = 6) : cs = [g cs 0, g cs 1, g cs 2, g cs 3, g cs 4, g cs 5] := by
  rcases cs with _ | ⟨a, _ | ⟨b, _ | ⟨c, _ | ⟨d, _ | ⟨e, _ | ⟨f, _ | ⟨x, r⟩⟩⟩⟩⟩⟩⟩ <;> simp at h
  rfl
theorem leaves44 : leaves Tryd.prog 5 44 = some [3, 3, 3, 3, 3, 3] := by kernel_rfl
theorem prompts_lifted (os : Os) (started : os.Started) (H : Type) (enc : TypeId × Value → H) :
    ReturnsInHanded {} Tryd.checked os 4 .any (fun w args => (Rows.resultPromptsSpec.pre enc Tryd.prog Tryd.f4 [] false w args ∧ laidMetH Tryd.prog laid2 w) ∧ sizedMet enc Tryd.prog Tryd.f4 (OpenSpec.ofChange Rows.resultPromptsSpec) false w args)
      (Rows.resultPromptsSpec.post enc Tryd.prog Tryd.f4 false true false false) := by
  refine returnsInHanded_of_change_and (C := Tryd.checked) (X := fun w _ => laidMetH Tryd.prog laid2 w) (fun _ _ _ hh h => h.of_heap hh) own started (by kernel_rfl) Tryd.func4
    (ChangeSpec.witness_shaped (enc := enc) (C := Tryd.checked) (os := os) (X := fun w _ => laidMetH Tryd.prog laid2 w) false (World.doorLaid Tryd.prog 400 os) #[.agg #[I 0, I 0, I 0, I 0, I 0, I 0]] 8 rfl
      (World.shaped_of_RefB (by kernel_rfl) (by kernel_rfl)) (by kernel_rfl) (by kernel_rfl) (by kernel_rfl) (door_met os _)) ?_
  intro W base args ds gs before hval0 hW _ _ hL _
  have hval : ∀ (j : Nat) t v, Tryd.f4.params[j]? = some t → args[j]? = some v → Value.okWide Tryd.prog W .any base t v := hval0
  have hW' := hW
  obtain ⟨p, q, hA0, hV, rfl, hfz, hnd⟩ := hW
  have hA : DataW.TrodAll enc Tryd.prog W 0 (fun _ => true) true Tryd.f4.params.toList args.toList ds p := hA0
  rw [Tryd.params4] at hA hval
  obtain ⟨v0, d0, rfl, rfl, h0⟩ := trodAll_one hA
  obtain ⟨rfl, rfl⟩ := trodVars_none hV
  obtain ⟨cs, rfl, hlen, _, hlf⟩ := agg_leaves 5 leaves44 sOk (by kernel_rfl) (by kernel_rfl) (by kernel_rfl) (hval 0 44 v0 rfl rfl) h0
  have hint : ∀ i, i < 6 → ∃ x, g cs i = I x := fun i hi => by
    have : [3, 3, 3, 3, 3, 3][i]? = some 3 := by rcases i with _ | _ | _ | _ | _ | _ | i <;> first | rfl | omega
    obtain ⟨x, h, _⟩ := (hlf i 3 this).int Tryd.underlying3
    exact ⟨x, h⟩
  obtain ⟨x0, e0⟩ := hint 0 (by omega)
  obtain ⟨x1, e1⟩ := hint 1 (by omega)
  obtain ⟨x2, e2⟩ := hint 2 (by omega)
  obtain ⟨x3, e3⟩ := hint 3 (by omega)
  obtain ⟨x4, e4⟩ := hint 4 (by omega)
  obtain ⟨x5, e5⟩ := hint 5 (by omega)
  have hcs := list6 hlen
  rw [e0, e1, e2, e3, e4, e5] at hcs
  subst hcs
  refine law_calls (tb := 4) (s4 (glob_of hL) x0 x1 x2 x3 x4 x5) hW' rfl rfl rfl Tryd.underlying4 laidOut ?_
  intro t ht
  have ht : t ∈ Tryd.f4.params.toList := ht
  rw [Tryd.params4] at ht
  obtain rfl : t = 44 := by simpa using ht
  exact ⟨by kernel_rfl, Nat.le_of_ble_eq_true (by kernel_rfl)⟩
theorem prompts_holds : Rows.ResultPromptsSaid :=
  OpenClaim.holds_of_wide 4 Tryd.f4 rfl rfl rfl rfl rfl rfl rfl ⟨rfl, rfl, rfl, rfl, rfl⟩ rfl rfl rfl rfl rfl (by kernel_rfl) Tryd.func4 (by kernel_rfl)
    (of_decide_eq_true (by kernel_rfl)) (by unfold Func.isWrapper; rw [if_neg (of_decide_eq_false (by kernel_rfl))]; exact ⟨rfl, rfl⟩)
    (fun os started H enc _ => prompts_lifted os started H enc)
theorem prompts_card : Rows.ResultPromptsCardSaid :=
  Claim7.holds_tied_plain_at .later [] [.widerDeep, .widerDeep] true (true, "7e2016211b7b368e8f645c90f1c12f1c242191c49ef0037c278f0e69b3e7ee23") false
    prompts_holds (fun _ h => by cases h) (by kernel_rfl) (fun _ h => by cases h) resultPrompts_row_tie rfl ⟨rfl, rfl⟩ (by kernel_rfl) rfl
    (fun f fn hf hfn => by
      obtain rfl : f = 4 := Option.some.inj ((show Tryd.prog.funcNamed "zeitnot/zeitnotlaw26.ResultPrompts" = some 4 by kernel_rfl).symm.trans hf) |>.symm
      obtain rfl : fn = Tryd.f4 := (Option.some.inj (Tryd.func4.symm.trans hfn)).symm
      exact ⟨by kernel_rfl, fun j t ht => by
        rw [Tryd.params4] at ht
        have hm : t ∈ [44] := by simpa using Array.mem_of_getElem? ht
        have hall : ([44].all fun u => !Tryd.prog.wantsStandIn u) = true := by kernel_rfl
        exact (show Tryd.prog.wantsStandIn t = false by simpa using List.all_eq_true.1 hall t hm)⟩)
    (by kernel_rfl)
#print axioms prompts_card
end Go.Proofs.YtafnobmndgjeaaaDoor
