/-
  DERIVED. GIVEN WITH THE SEED: THE CARDS: each row of YteakpllehopodaaGreatDoorRows.lean that lists a variable, with what it lists TIED to the program's text (the seventh form; the later family's looks); each row that meets fmt, with fmt's text TOLD by the authors' own Lean function (tested against real Go, not proved from fmt's source: count such statements apart). THE CARD IS WHAT COUNTS. Prove the row's statement (the work); the ties are given (YteakpllehopodaaGreatDoorTie.lean); close each card by the builder's one call (the guide's Derived/Test/ToyasCard.lean, 'card_holds'). Laid BY PROGRAM, IN A SANDBOX (cutbox-door.mjs). By AI agents, Wed Nov 11 2026. No macro, syntax, notation, axiom, sorry.
-/
import Derived.Test.YteakpllehopodaaGreatDoorRows
import GoSem.ClaimSeven
namespace Go.Proofs.YteakpllehopodaaGreatDoor
namespace Rows

/-- THE TIED CARD OF 'zeitnotlaw49.BotNone'. -/
def botNoneCard : Claim7 := { stood := { row := botNoneRow, standIns := [], harness := (true, "17e97f0ad85ddabd0de9d489cb84e46e8e4bb77c3e7719519424078a470da240"), looks := false }, kinds := [], alts := [], laidByText := true, laidKinds := [.data, .data, .data, .pinned], laidTests := true, laidLooks := .later }
def BotNoneCardSaid : Prop := Claim7.holds Tryz.pinned (.plain (OpenSpec.ofChange botNoneSpec)) botNoneCard

/-- THE TIED CARD OF 'zeitnotlaw49.BotPlays'. -/
def botPlaysCard : Claim7 := { stood := { row := botPlaysRow, standIns := [], harness := (true, "17e97f0ad85ddabd0de9d489cb84e46e8e4bb77c3e7719519424078a470da240"), looks := false }, kinds := [], alts := [], laidByText := true, laidKinds := [.data, .data, .data, .pinned], laidTests := true, laidLooks := .later }
def BotPlaysCardSaid : Prop := Claim7.holds Tryz.pinned (.plain (OpenSpec.ofChange botPlaysSpec)) botPlaysCard

/-- THE TIED CARD OF 'zeitnotlaw49.BotHolds'. -/
def botHoldsCard : Claim7 := { stood := { row := botHoldsRow, standIns := [], harness := (true, "17e97f0ad85ddabd0de9d489cb84e46e8e4bb77c3e7719519424078a470da240"), looks := false }, kinds := [], alts := [], laidByText := true, laidKinds := [.data, .data, .data, .pinned], laidTests := true, laidLooks := .later }
def BotHoldsCardSaid : Prop := Claim7.holds Tryz.pinned (.plain (OpenSpec.ofChange botHoldsSpec)) botHoldsCard

/-- THE SECOND FORM's CARD OF 'zeitnotlaw49.BotNone'. -/
def botNoneUptoCard : Claim7 := { stood := { row := botNoneUptoRow, standIns := [], harness := (true, "17e97f0ad85ddabd0de9d489cb84e46e8e4bb77c3e7719519424078a470da240"), looks := false }, kinds := [], alts := [], laidByText := true, laidKinds := [.data, .data, .data, .pinned], laidTests := true, laidLooks := .later }
def BotNoneUptoCardSaid : Prop := Claim7.holds Tryz.pinned (.plain (OpenSpec.upto botNoneSpec)) botNoneUptoCard

/-- THE SECOND FORM's CARD OF 'zeitnotlaw49.BotPlays'. -/
def botPlaysUptoCard : Claim7 := { stood := { row := botPlaysUptoRow, standIns := [], harness := (true, "17e97f0ad85ddabd0de9d489cb84e46e8e4bb77c3e7719519424078a470da240"), looks := false }, kinds := [], alts := [], laidByText := true, laidKinds := [.data, .data, .data, .pinned], laidTests := true, laidLooks := .later }
def BotPlaysUptoCardSaid : Prop := Claim7.holds Tryz.pinned (.plain (OpenSpec.upto botPlaysSpec)) botPlaysUptoCard

/-- THE SECOND FORM's CARD OF 'zeitnotlaw49.BotHolds'. -/
def botHoldsUptoCard : Claim7 := { stood := { row := botHoldsUptoRow, standIns := [], harness := (true, "17e97f0ad85ddabd0de9d489cb84e46e8e4bb77c3e7719519424078a470da240"), looks := false }, kinds := [], alts := [], laidByText := true, laidKinds := [.data, .data, .data, .pinned], laidTests := true, laidLooks := .later }
def BotHoldsUptoCardSaid : Prop := Claim7.holds Tryz.pinned (.plain (OpenSpec.upto botHoldsSpec)) botHoldsUptoCard
end Rows
end Go.Proofs.YteakpllehopodaaGreatDoor
