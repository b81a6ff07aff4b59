/- For all arguments the law DeckHolds returns true, and its arguments read as before.
Conditions: none of ours. The seven package-level variables that the row lists hold what the program's own text lays in them (the card ties that); internal/bytealg.MaxLen holds any number. -/
import Derived.Test.YtamgiojcbdbokaaGreatDoorD50
namespace Go.Proofs.YtamgiojcbdbokaaGreatDoor
open Go Go.Sx Go.ChangeShapes Go.WideShapes Go.ChangeAt Go.RowKit
set_option maxRecDepth 100000
set_option maxHeartbeats 1000000
theorem qH (os : Os) (started : os.Started) (H : Type) (enc : TypeId × Value → H) :
  ReturnsInHanded {} Tryz.checked os 7 .any (fun w args => (Rows.deckHoldsSpec.pre enc Tryz.prog Tryz.f7 [] false w args ∧ laidMetH Tryz.prog uJ w) ∧ sizedMet enc Tryz.prog Tryz.f7 (OpenSpec.ofChange Rows.deckHoldsSpec) false w args)
   (Rows.deckHoldsSpec.post enc Tryz.prog Tryz.f7 false true false false) := by
 refine qE (C := Tryz.checked) (X := fun w _ => laidMetH Tryz.prog uJ w) (fun _ _ _ hh h => h.of_heap hh) own started (by kernel_rfl) Tryz.func7
  (ChangeSpec.witness_shaped (enc := enc) (C := Tryz.checked) (os := os) (X := fun w _ => laidMetH Tryz.prog uJ w) false (World.laidAll Tryz.prog os uJ) #[DG, DG, .int .u8 0] 8 (World.laidAll_os _ _ _)
   (World.shaped_of_ZipB (by kernel_rfl) (by kernel_rfl)) (by kernel_rfl) (by kernel_rfl) (by kernel_rfl)
   (by rw [MakeChecks.laidMetH_plain _ _ _ (by kernel_rfl)]; exact laidMet_laidAll _ (by kernel_rfl) (by kernel_rfl))) ?_
 intro W base args ds gs before hval0 hW hL hsh
 have hval : ∀ (j : Nat) t v, Tryz.f7.params[j]? = some t → args[j]? = some v → Value.okWide Tryz.prog W .any base t v := hval0
 have hW' := hW
 obtain ⟨p, q, hA0, hV, rfl, hfz, hnd⟩ := hW
 have hA : DataW.TrodAll enc Tryz.prog W 0 (fun _ => true) true Tryz.f7.params.toList args.toList ds p := hA0
 rw [Tryz.params7] at hA hval
 obtain ⟨v0, v1, v2, d0, d1, d2, p0, p1, p2, rfl, rfl, rfl, h0, h1, h2⟩ := trodAll_three hA
 obtain ⟨rfl, rfl⟩ := trodVars_none hV
 obtain ⟨k0, hk0⟩ := uz (qL Tryz.underlying22 sOk (by kernel_rfl) (hval 0 22 v0 rfl rfl) h0)
 obtain ⟨k1, hk1⟩ := xX (qL Tryz.underlying23 sOk (by kernel_rfl) (hval 1 23 v1 rfl rfl) h1)
 obtain ⟨n2, rfl, rfl, rfl, wf2⟩ := open_int Tryz.underlying5 (hval 2 5 v2 rfl rfl) h2
 refine yy (tb := 4) (tz (BQ hL hsh) hk0 hk1 (Ds wf2).1 (Int.lt_add_one_of_le (Ds wf2).2)) hW' rfl rfl rfl Tryz.underlying4 BM ?_
 intro t ht
 have ht : t ∈ Tryz.f7.params.toList := ht
 rw [Tryz.params7] at ht
 have hall : ([22, 23, 5].all fun t => Tryz.prog.readableRec t && Nat.blt t Tryz.prog.types.size) = true := by kernel_rfl
 have := List.all_eq_true.1 hall t (by simpa using ht)
 rw [Bool.and_eq_true] at this
 exact ⟨this.1, Nat.le_of_ble_eq_true this.2⟩
theorem rX : Rows.DeckHoldsSaid :=
 OpenClaim.holds_of_wide 7 Tryz.f7 rfl rfl rfl rfl rfl rfl rfl ⟨rfl, rfl, rfl, rfl, rfl⟩ rfl rfl rfl rfl rfl (by kernel_rfl) Tryz.func7 (by kernel_rfl)
  (of_decide_eq_true (by kernel_rfl)) (by unfold Func.isWrapper; rw [if_neg (of_decide_eq_false (by kernel_rfl))]; exact ⟨rfl, rfl⟩)
  (fun os started H enc _ => qH os started H enc)
theorem holds09_card : Rows.DeckHoldsCardSaid :=
 Claim7.holds_tied_plain_at .later [] [.data, .data, .data, .data, .sentinel, .sentinel, .pinned] true (true, "82ee6e96cf104bbe9e540b4539e21603ab777464a83f15cb8eb96169ca6762c8") true
  rX (fun _ h => by cases h) (by kernel_rfl) (fun _ h => by cases h) deckHolds_row_tie rfl ⟨rfl, rfl⟩ (by kernel_rfl) rfl
  (fun f fn hf hfn => by
   obtain rfl : f = 7 := Option.some.inj ((show Tryz.prog.funcNamed "zeitnot/zeitnotlaw09.DeckHolds" = some 7 by kernel_rfl).symm.trans hf) |>.symm
   obtain rfl : fn = Tryz.f7 := (Option.some.inj (Tryz.func7.symm.trans hfn)).symm
   exact ⟨by kernel_rfl, fun j t ht => by
    rw [Tryz.params7] at ht
    have hm : t ∈ [22, 23, 5] := by simpa using Array.mem_of_getElem? ht
    have hall : ([22, 23, 5].all fun u => !Tryz.prog.wantsStandIn u) = true := by kernel_rfl
    exact (show Tryz.prog.wantsStandIn t = false by simpa using List.all_eq_true.1 hall t hm)⟩)
  (by kernel_rfl)
#print axioms holds09_card
end Go.Proofs.YtamgiojcbdbokaaGreatDoor
