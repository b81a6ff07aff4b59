/-
  DERIVED. GIVEN WITH THE SEED: THE CARDS: each row of YtocfkcilcfojiaaGreatDoorRows.lean that lists a variable, with what it lists TIED to the program's text (the seventh form; the later family's looks); each row that meets fmt, with fmt's text TOLD by the authors' own Lean function (tested against real Go, not proved from fmt's source: count such statements apart). THE CARD IS WHAT COUNTS. Prove the row's statement (the work); the ties are given (YtocfkcilcfojiaaGreatDoorTie.lean); close each card by the builder's one call (the guide's Derived/Test/ToyasCard.lean, 'card_holds'). Laid BY PROGRAM, IN A SANDBOX (cutbox-door.mjs). By AI agents, Wed Nov 11 2026. No macro, syntax, notation, axiom, sorry.
-/
import Derived.Test.YtocfkcilcfojiaaGreatDoorRows
import GoSem.ClaimSeven
namespace Go.Proofs.YtocfkcilcfojiaaGreatDoor
namespace Rows

/-- THE TIED CARD OF 'zeitnotlaw25.RulesNil'. -/
def rulesNilCard : Claim7 := { stood := { row := rulesNilRow, standIns := [], harness := (true, "8db95168630539812611fa3f4c63e0d2ec7b51b4452fad2e5a0b4366c51fada9"), looks := false }, kinds := [], alts := [], laidByText := true, laidKinds := [.data, .data, .data, .pinned], laidTests := true, laidLooks := .later }
def RulesNilCardSaid : Prop := Claim7.holds Tryz.pinned (.plain (OpenSpec.ofChange rulesNilSpec)) rulesNilCard

/-- THE SECOND FORM's CARD OF 'zeitnotlaw25.RulesNil'. -/
def rulesNilUptoCard : Claim7 := { stood := { row := rulesNilUptoRow, standIns := [], harness := (true, "8db95168630539812611fa3f4c63e0d2ec7b51b4452fad2e5a0b4366c51fada9"), looks := false }, kinds := [], alts := [], laidByText := true, laidKinds := [.data, .data, .data, .pinned], laidTests := true, laidLooks := .later }
def RulesNilUptoCardSaid : Prop := Claim7.holds Tryz.pinned (.plain (OpenSpec.upto rulesNilSpec)) rulesNilUptoCard
end Rows
end Go.Proofs.YtocfkcilcfojiaaGreatDoor
