/-
  DERIVED. GIVEN WITH THE SEED: THE CARDS: each row of YtpcpmblfhlcmaaaGreatDoorRows.lean that lists a variable, with what it lists TIED to the program's text (the seventh form; the later family's looks); each row that meets fmt, with fmt's text TOLD by the authors' own Lean function (tested against real Go, not proved from fmt's source: count such statements apart). THE CARD IS WHAT COUNTS. Prove the row's statement (the work); the ties are given (YtpcpmblfhlcmaaaGreatDoorTie.lean); close each card by the builder's one call (the guide's Derived/Test/ToyasCard.lean, 'card_holds'). Laid BY PROGRAM, IN A SANDBOX (cutbox-door.mjs). By AI agents, Wed Nov 11 2026. No macro, syntax, notation, axiom, sorry.
-/
import Derived.Test.YtpcpmblfhlcmaaaGreatDoorRows
import GoSem.ClaimSeven
namespace Go.Proofs.YtpcpmblfhlcmaaaGreatDoor
namespace Rows

/-- THE TIED CARD OF 'zeitnotlaw50.ArenaNone'. -/
def arenaNoneCard : Claim7 := { stood := { row := arenaNoneRow, standIns := [], harness := (true, "406e9d2c18f624b0d5ae854ed8e8a7a46beb5a05cba3330166c1bb6d4c18dda0"), looks := false }, kinds := [], alts := [], laidByText := true, laidKinds := [.data, .data, .data, .pinned], laidTests := true, laidLooks := .later }
def ArenaNoneCardSaid : Prop := Claim7.holds Tryz.pinned (.plain (OpenSpec.ofChange arenaNoneSpec)) arenaNoneCard

/-- THE SECOND FORM's CARD OF 'zeitnotlaw50.ArenaNone'. -/
def arenaNoneUptoCard : Claim7 := { stood := { row := arenaNoneUptoRow, standIns := [], harness := (true, "406e9d2c18f624b0d5ae854ed8e8a7a46beb5a05cba3330166c1bb6d4c18dda0"), looks := false }, kinds := [], alts := [], laidByText := true, laidKinds := [.data, .data, .data, .pinned], laidTests := true, laidLooks := .later }
def ArenaNoneUptoCardSaid : Prop := Claim7.holds Tryz.pinned (.plain (OpenSpec.upto arenaNoneSpec)) arenaNoneUptoCard
end Rows
end Go.Proofs.YtpcpmblfhlcmaaaGreatDoor
