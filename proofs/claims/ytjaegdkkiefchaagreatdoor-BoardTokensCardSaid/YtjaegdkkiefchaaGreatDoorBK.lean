/- For all arguments the law BoardTokens returns true, and its arguments read as before.
Conditions: none of ours. The package-level variable math/bits.deBruijn64tab holds what the program's own text lays in it (the card ties that). -/
import Derived.Test.YtjaegdkkiefchaaGreatDoorBW
import Derived.Test.YtjaegdkkiefchaaGreatDoorM4
import Derived.Test.YtjaegdkkiefchaaGreatDoorC44
namespace Go.Proofs.YtjaegdkkiefchaaGreatDoor
open Go Go.Sx Go.ChangeShapes Go.WideShapes Go.ChangeAt Go.RowKit
set_option maxRecDepth 100000
set_option maxHeartbeats 1000000
theorem tokens_lifted (os : Os) (started : os.Started) (H : Type) (enc : TypeId × Value → H) :
  ReturnsInHanded {} Tryz.checked os 5 .any (fun w args => (Rows.boardTokensSpec.pre enc Tryz.prog Tryz.f5 [] false w args ∧ laidMetH Tryz.prog laid1 w) ∧ sizedMet enc Tryz.prog Tryz.f5 (OpenSpec.ofChange Rows.boardTokensSpec) false w args)
   (Rows.boardTokensSpec.post enc Tryz.prog Tryz.f5 false true false false) := by
 refine returnsInHanded_of_change_and (C := Tryz.checked) (X := fun w _ => laidMetH Tryz.prog laid1 w) (fun _ _ _ hh h => h.of_heap hh) own started (by kernel_rfl) Tryz.func5
  (ChangeSpec.witness_shaped (enc := enc) (C := Tryz.checked) (os := os) (X := fun w _ => laidMetH Tryz.prog laid1 w) false (World.doorLaid Tryz.prog 400 os) #[nilS', zB, iV 0, nilS', iV 0] 8 rfl
   (World.shaped_of_RefB (by kernel_rfl) (by kernel_rfl)) (by kernel_rfl) (by kernel_rfl) (by kernel_rfl) (door_met os _)) ?_
 intro W base args ds gs before hval0 hW _ _ hL _
 have hval : ∀ (j : Nat) t v, Tryz.f5.params[j]? = some t → args[j]? = some v → Value.okWide Tryz.prog W .any base t v := hval0
 have hW' := hW
 obtain ⟨p, q, hA0, hV, rfl, hfz, hnd⟩ := hW
 have hA : DataW.TrodAll enc Tryz.prog W 0 (fun _ => true) true Tryz.f5.params.toList args.toList ds p := hA0
 rw [Tryz.params5] at hA hval
 obtain ⟨v0, v1, v2, v3, v4, d0, d1, d2, d3, d4, p0, p1, p2, p3, p4, rfl, rfl, rfl, h0, h1, h2, h3, h4⟩ := trodAll_five hA
 obtain ⟨rfl, rfl⟩ := trodVars_none hV
 obtain ⟨ks0, hk0⟩ := read_cards (slice_leaf Tryz.underlying57 sOk (by kernel_rfl) (hval 0 57 v0 rfl rfl) h0)
 obtain ⟨cs1, rfl, hlen1, _, hlf1⟩ := agg_leaves 6 leavesBd sOk (by kernel_rfl) (by kernel_rfl) (by kernel_rfl) (hval 1 33 v1 rfl rfl) h1
 obtain ⟨w1, b1, rfl, hb1⟩ := read_board hlen1 hlf1
 obtain ⟨n2, rfl, rfl, rfl, wf2⟩ := open_int Tryz.underlying3 (hval 2 3 v2 rfl rfl) h2
 obtain ⟨l3, hl3, hli3⟩ := read_intsL (slice_leaf Tryz.underlying25 sOk (by kernel_rfl) (hval 3 25 v3 rfl rfl) h3)
 obtain ⟨n4, rfl, rfl, rfl, wf4⟩ := open_int Tryz.underlying3 (hval 4 3 v4 rfl rfl) h4
 refine law_calls (tb := 4) (tokens_true (glob_of hL) hk0 hb1 n2 hl3 hli3 n4) hW' rfl rfl rfl Tryz.underlying4 laidOut ?_
 intro t ht
 have ht : t ∈ Tryz.f5.params.toList := ht
 rw [Tryz.params5] at ht
 have hall : ([57, 33, 3, 25, 3].all fun t => Tryz.prog.readableRec t && Nat.blt t Tryz.prog.types.size) = true := by kernel_rfl
 have := List.all_eq_true.1 hall t (by simpa using ht)
 rw [Bool.and_eq_true] at this
 exact ⟨this.1, Nat.le_of_ble_eq_true this.2⟩
theorem tokens_holds : Rows.BoardTokensSaid :=
 OpenClaim.holds_of_wide 5 Tryz.f5 rfl rfl rfl rfl rfl rfl rfl ⟨rfl, rfl, rfl, rfl, rfl⟩ rfl rfl rfl rfl rfl (by kernel_rfl) Tryz.func5 (by kernel_rfl)
  (of_decide_eq_true (by kernel_rfl)) (by unfold Func.isWrapper; rw [if_neg (of_decide_eq_false (by kernel_rfl))]; exact ⟨rfl, rfl⟩)
  (fun os started H enc _ => tokens_lifted os started H enc)
theorem tokens_card : Rows.BoardTokensCardSaid :=
 Claim7.holds_tied_plain_at .later [] [.data] true (true, "ad19160deafb9f47f8e0767ede273b9e71ccac1c6c2f39d95e5960475894b9fa") false
  tokens_holds (fun _ h => by cases h) (by kernel_rfl) (fun _ h => by cases h) boardTokens_row_tie rfl ⟨rfl, rfl⟩ (by kernel_rfl) rfl
  (fun f fn hf hfn => by
   obtain rfl : f = 5 := Option.some.inj ((show Tryz.prog.funcNamed "zeitnot/zeitnotlaw15.BoardTokens" = some 5 by kernel_rfl).symm.trans hf) |>.symm
   obtain rfl : fn = Tryz.f5 := (Option.some.inj (Tryz.func5.symm.trans hfn)).symm
   exact ⟨by kernel_rfl, fun j t ht => by
    rw [Tryz.params5] at ht
    have hm : t ∈ [57, 33, 3, 25, 3] := by simpa using Array.mem_of_getElem? ht
    have hall : ([57, 33, 3, 25, 3].all fun u => !Tryz.prog.wantsStandIn u) = true := by kernel_rfl
    exact (show Tryz.prog.wantsStandIn t = false by simpa using List.all_eq_true.1 hall t hm)⟩)
  (by kernel_rfl)
#print axioms tokens_card
end Go.Proofs.YtjaegdkkiefchaaGreatDoor
