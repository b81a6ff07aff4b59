/- For every board, pair of losers and reason the law ResultJudges returns true, and its arguments read as before.
Conditions: none of ours. The package-level variables result.outcomes and result.reasons hold what the program's own text lays in them (the card ties that). -/
import Derived.Test.YtafnobmndgjeaaaDoorR1O
import Derived.Test.YtafnobmndgjeaaaDoorR1I
namespace Go.Proofs.YtafnobmndgjeaaaDoor
open Go Go.Sx Go.ChangeShapes Go.WideShapes Go.ChangeAt Go.RowKit
set_option maxRecDepth 100000

abbrev leavesB : List TypeId := [22, 3, 3, 3, 3, 3, 25, 25, 25, 25, 4, 4, 4, 3, 3, 3, 3, 3, 3, 3, 25, 25, 25, 25, 4, 4, 4, 3, 3, 29, 29, 25, 30, 3, 3, 31, 3, 3]
theorem leaves33 : leaves Tryd.prog 6 33 = some leavesB := by kernel_rfl
theorem leaves34 : leaves Tryd.prog 5 34 = some [4, 4] := by kernel_rfl
theorem leaves71 : leaves Tryd.prog 5 71 = some [3, 3, 3, 3, 69] := by kernel_rfl
theorem judges_lifted (os : Os) (started : os.Started) (H : Type) (enc : TypeId × Value → H) :
    ReturnsInHanded {} Tryd.checked os 3 .any (fun w args => (Rows.resultJudgesSpec.pre enc Tryd.prog Tryd.f3 [] false w args ∧ laidMetH Tryd.prog laid2 w) ∧ sizedMet enc Tryd.prog Tryd.f3 (OpenSpec.ofChange Rows.resultJudgesSpec) false w args)
      (Rows.resultJudgesSpec.post enc Tryd.prog Tryd.f3 false true false false) := by
  refine returnsInHanded_of_change_and (C := Tryd.checked) (X := fun w _ => laidMetH Tryd.prog laid2 w) (fun _ _ _ hh h => h.of_heap hh) own started (by kernel_rfl) Tryd.func3
    (ChangeSpec.witness_shaped (enc := enc) (C := Tryd.checked) (os := os) (X := fun w _ => laidMetH Tryd.prog laid2 w) false (World.doorLaid Tryd.prog 400 os) #[.agg (kc 0 0 (.slice none 0 0) (.slice none 0 0)).toArray, .agg #[.bool false, .bool false], I 0] 8 rfl
      (World.shaped_of_RefB (by kernel_rfl) (by kernel_rfl)) (by kernel_rfl) (by kernel_rfl) (by kernel_rfl) (door_met os _)) ?_
  intro W base args ds gs before hval0 hW _ _ hL _
  have hval : ∀ (j : Nat) t v, Tryd.f3.params[j]? = some t → args[j]? = some v → Value.okWide Tryd.prog W .any base t v := hval0
  have hW' := hW
  obtain ⟨p, q, hA0, hV, rfl, hfz, hnd⟩ := hW
  have hA : DataW.TrodAll enc Tryd.prog W 0 (fun _ => true) true Tryd.f3.params.toList args.toList ds p := hA0
  rw [Tryd.params3] at hA hval
  obtain ⟨v0, v1, v2, d0, d1, d2, p0, p1, p2, rfl, rfl, rfl, h0, h1, h2⟩ := trodAll_three hA
  obtain ⟨rfl, rfl⟩ := trodVars_none hV
  obtain ⟨cs, rfl, hlen, hones, hlf⟩ := agg_leaves 6 leaves33 sOk (by kernel_rfl) (by kernel_rfl) (by kernel_rfl) (hval 0 33 v0 rfl rfl) h0
  obtain ⟨ls, rfl, hlen2, _, hlf2⟩ := agg_leaves 5 leaves34 sOk (by kernel_rfl) (by kernel_rfl) (by kernel_rfl) (hval 1 34 v1 rfl rfl) h1
  obtain ⟨r, rfl, rfl, rfl, _⟩ := open_int Tryd.underlying35 (hval 2 35 v2 rfl rfl) h2
  obtain ⟨b0, e0⟩ := (hlf2 0 4 rfl).bool Tryd.underlying4
  obtain ⟨b1, e1⟩ := (hlf2 1 4 rfl).bool Tryd.underlying4
  have hls : ls = [g ls 0, g ls 1] := by
    rcases ls with _ | ⟨a, _ | ⟨b, _ | ⟨x, r⟩⟩⟩ <;> simp at hlen2
    rfl
  rw [e0, e1] at hls
  subst hls
  have hb : BoardOk (heapOf W) cs := by
    refine ⟨hlen, hones, fun i hi => ?_, fun i hi => ?_⟩
    · have hsl : ∀ (i t e : Nat), leavesB[i]? = some t → Tryd.prog.underlying t = some (.slice e) → ∃ n : Nat, evalPure .len [g cs i] = some (I n) := fun i t e h1 h2 => by
        obtain ⟨rows, hs, _⟩ := (hlf i t h1).slice h2
        exact ⟨rows.length, hs.len⟩
      simp only [List.mem_cons, List.not_mem_nil, or_false] at hi
      rcases hi with rfl | rfl | rfl | rfl | rfl | rfl | rfl | rfl | rfl | rfl | rfl | rfl | rfl
      · exact hsl 0 22 _ rfl Tryd.underlying22
      · exact hsl 6 25 _ rfl Tryd.underlying25
      · exact hsl 7 25 _ rfl Tryd.underlying25
      · exact hsl 8 25 _ rfl Tryd.underlying25
      · exact hsl 9 25 _ rfl Tryd.underlying25
      · exact hsl 20 25 _ rfl Tryd.underlying25
      · exact hsl 21 25 _ rfl Tryd.underlying25
      · exact hsl 22 25 _ rfl Tryd.underlying25
      · exact hsl 23 25 _ rfl Tryd.underlying25
      · exact hsl 29 29 _ rfl Tryd.underlying29
      · exact hsl 30 29 _ rfl Tryd.underlying29
      · exact hsl 31 25 _ rfl Tryd.underlying25
      · exact hsl 32 30 _ rfl Tryd.underlying30
    · have hit : ∀ i : Nat, leavesB[i]? = some 29 → ∃ rows, Sl (heapOf W) 5 (g cs i) rows ∧ ∀ r ∈ rows, ∃ n : Nat, evalPure .len [g r 4] = some (I n) := fun i h1 => by
        obtain ⟨rows, hs, k, hk⟩ := (hlf i 29 h1).slice Tryd.underlying29
        rw [show Tryd.prog.cellsOf 71 = 5 by kernel_rfl] at hs
        refine ⟨rows, hs, fun r hr => ?_⟩
        obtain ⟨c, h1, h2⟩ := leaf_get leaves71 (hk r hr) 4 69 rfl
        obtain ⟨rs, h3, _⟩ := h2.slice Tryd.underlying69
        rw [g_get h1]
        exact ⟨_, h3.len⟩
      simp only [List.mem_cons, List.not_mem_nil, or_false] at hi
      rcases hi with rfl | rfl
      · exact hit 29 rfl
      · exact hit 30 rfl
  obtain ⟨x, ex, _⟩ := (hlf 1 3 rfl).int Tryd.underlying3
  obtain ⟨y, ey, _⟩ := (hlf 15 3 rfl).int Tryd.underlying3
  obtain ⟨n, hn⟩ := hb.sl 6 (by simp)
  obtain ⟨k, hk⟩ := hb.sl 20 (by simp)
  refine law_calls (tb := 4) (s3 (glob_of hL) hb ⟨hlen, hones, ex, ey, hn, hk⟩ b0 b1 r) hW' rfl rfl rfl Tryd.underlying4 laidOut ?_
  intro t ht
  have ht : t ∈ Tryd.f3.params.toList := ht
  rw [Tryd.params3] at ht
  have hall : ([33, 34, 35].all fun t => Tryd.prog.readableRec t && Nat.blt t Tryd.prog.types.size) = true := by kernel_rfl
  have := List.all_eq_true.1 hall t (by simpa using ht)
  rw [Bool.and_eq_true] at this
  exact ⟨this.1, Nat.le_of_ble_eq_true this.2⟩
theorem judges_holds : Rows.ResultJudgesSaid :=
  OpenClaim.holds_of_wide 3 Tryd.f3 rfl rfl rfl rfl rfl rfl rfl ⟨rfl, rfl, rfl, rfl, rfl⟩ rfl rfl rfl rfl rfl (by kernel_rfl) Tryd.func3 (by kernel_rfl)
    (of_decide_eq_true (by kernel_rfl)) (by unfold Func.isWrapper; rw [if_neg (of_decide_eq_false (by kernel_rfl))]; exact ⟨rfl, rfl⟩)
    (fun os started H enc _ => judges_lifted os started H enc)
theorem judges_card : Rows.ResultJudgesCardSaid :=
  Claim7.holds_tied_plain_at .later [] [.widerDeep, .widerDeep] true (true, "7e2016211b7b368e8f645c90f1c12f1c242191c49ef0037c278f0e69b3e7ee23") false
    judges_holds (fun _ h => by cases h) (by kernel_rfl) (fun _ h => by cases h) resultJudges_row_tie rfl ⟨rfl, rfl⟩ (by kernel_rfl) rfl
    (fun f fn hf hfn => by
      obtain rfl : f = 3 := Option.some.inj ((show Tryd.prog.funcNamed "zeitnot/zeitnotlaw26.ResultJudges" = some 3 by kernel_rfl).symm.trans hf) |>.symm
      obtain rfl : fn = Tryd.f3 := (Option.some.inj (Tryd.func3.symm.trans hfn)).symm
      exact ⟨by kernel_rfl, fun j t ht => by
        rw [Tryd.params3] at ht
        have hm : t ∈ [33, 34, 35] := by simpa using Array.mem_of_getElem? ht
        have hall : ([33, 34, 35].all fun u => !Tryd.prog.wantsStandIn u) = true := by kernel_rfl
        exact (show Tryd.prog.wantsStandIn t = false by simpa using List.all_eq_true.1 hall t hm)⟩)
    (by kernel_rfl)
#print axioms judges_card
end Go.Proofs.YtafnobmndgjeaaaDoor
