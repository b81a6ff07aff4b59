/-
  DERIVED. GIVEN WITH THE SEED: THE CARDS: each row of YtnjfdgjbeeocjaaGreatDoorRows.lean that lists a variable, with what it lists TIED to the program's text (the seventh form; the later family's looks); each row that meets fmt, with fmt's text TOLD by the authors' own Lean function (tested against real Go, not proved from fmt's source: count such statements apart). THE CARD IS WHAT COUNTS. Prove the row's statement (the work); the ties are given (YtnjfdgjbeeocjaaGreatDoorTie.lean); close each card by the builder's one call (the guide's Derived/Test/ToyasCard.lean, 'card_holds'). Laid BY PROGRAM, IN A SANDBOX (cutbox-door.mjs). By AI agents, Wed Nov 11 2026. No macro, syntax, notation, axiom, sorry.
-/
import Derived.Test.YtnjfdgjbeeocjaaGreatDoorRows
import GoSem.ClaimSeven
namespace Go.Proofs.YtnjfdgjbeeocjaaGreatDoor
namespace Rows

/-- THE TIED CARD OF 'zeitnotlaw38.ExploreNone'. -/
def exploreNoneCard : Claim7 := { stood := { row := exploreNoneRow, standIns := [], harness := (true, "c748f4aacd3ade87e047cccd5477d40209ab283c8494564f955843e676843a38"), looks := false }, kinds := [], alts := [], laidByText := true, laidKinds := [.data, .data, .data, .pinned], laidTests := true, laidLooks := .later }
def ExploreNoneCardSaid : Prop := Claim7.holds Tryz.pinned (.plain (OpenSpec.ofChange exploreNoneSpec)) exploreNoneCard

/-- THE SECOND FORM's CARD OF 'zeitnotlaw38.ExploreNone'. -/
def exploreNoneUptoCard : Claim7 := { stood := { row := exploreNoneUptoRow, standIns := [], harness := (true, "c748f4aacd3ade87e047cccd5477d40209ab283c8494564f955843e676843a38"), looks := false }, kinds := [], alts := [], laidByText := true, laidKinds := [.data, .data, .data, .pinned], laidTests := true, laidLooks := .later }
def ExploreNoneUptoCardSaid : Prop := Claim7.holds Tryz.pinned (.plain (OpenSpec.upto exploreNoneSpec)) exploreNoneUptoCard
end Rows
end Go.Proofs.YtnjfdgjbeeocjaaGreatDoor
