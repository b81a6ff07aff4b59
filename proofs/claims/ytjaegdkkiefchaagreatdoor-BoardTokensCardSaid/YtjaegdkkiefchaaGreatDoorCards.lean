/-
  DERIVED. GIVEN WITH THE SEED: THE CARDS: each row of YtjaegdkkiefchaaGreatDoorRows.lean that lists a variable, with what it lists TIED to the program's text (the seventh form; the later family's looks); each row that meets fmt, with fmt's text TOLD by the authors' own Lean function (tested against real Go, not proved from fmt's source: count such statements apart). THE CARD IS WHAT COUNTS. Prove the row's statement (the work); the ties are given (YtjaegdkkiefchaaGreatDoorTie.lean); close each card by the builder's one call (the guide's Derived/Test/ToyasCard.lean, 'card_holds'). Laid BY PROGRAM, IN A SANDBOX (cutbox-door.mjs). By AI agents, Wed Nov 11 2026. No macro, syntax, notation, axiom, sorry.
-/
import Derived.Test.YtjaegdkkiefchaaGreatDoorRows
import GoSem.ClaimSeven
namespace Go.Proofs.YtjaegdkkiefchaaGreatDoor
namespace Rows

/-- THE TIED CARD OF 'zeitnotlaw15.BoardValid'. -/
def boardValidCard : Claim7 := { stood := { row := boardValidRow, standIns := [], harness := (true, "ad19160deafb9f47f8e0767ede273b9e71ccac1c6c2f39d95e5960475894b9fa"), looks := false }, kinds := [], alts := [], laidByText := true, laidKinds := [.data], laidTests := true, laidLooks := .later }
def BoardValidCardSaid : Prop := Claim7.holds Tryz.pinned (.plain (OpenSpec.ofChange boardValidSpec)) boardValidCard

/-- THE TIED CARD OF 'zeitnotlaw15.BoardFinds'. -/
def boardFindsCard : Claim7 := { stood := { row := boardFindsRow, standIns := [], harness := (true, "ad19160deafb9f47f8e0767ede273b9e71ccac1c6c2f39d95e5960475894b9fa"), looks := false }, kinds := [], alts := [], laidByText := true, laidKinds := [.data], laidTests := true, laidLooks := .later }
def BoardFindsCardSaid : Prop := Claim7.holds Tryz.pinned (.plain (OpenSpec.ofChange boardFindsSpec)) boardFindsCard

/-- THE TIED CARD OF 'zeitnotlaw15.BoardTokens'. -/
def boardTokensCard : Claim7 := { stood := { row := boardTokensRow, standIns := [], harness := (true, "ad19160deafb9f47f8e0767ede273b9e71ccac1c6c2f39d95e5960475894b9fa"), looks := false }, kinds := [], alts := [], laidByText := true, laidKinds := [.data], laidTests := true, laidLooks := .later }
def BoardTokensCardSaid : Prop := Claim7.holds Tryz.pinned (.plain (OpenSpec.ofChange boardTokensSpec)) boardTokensCard

/-- THE TIED CARD OF 'zeitnotlaw15.BoardMoves'. -/
def boardMovesCard : Claim7 := { stood := { row := boardMovesRow, standIns := [], harness := (true, "ad19160deafb9f47f8e0767ede273b9e71ccac1c6c2f39d95e5960475894b9fa"), looks := false }, kinds := [], alts := [], laidByText := true, laidKinds := [.data], laidTests := true, laidLooks := .later }
def BoardMovesCardSaid : Prop := Claim7.holds Tryz.pinned (.plain (OpenSpec.ofChange boardMovesSpec)) boardMovesCard

/-- THE SECOND FORM's CARD OF 'zeitnotlaw15.BoardValid'. -/
def boardValidUptoCard : Claim7 := { stood := { row := boardValidUptoRow, standIns := [], harness := (true, "ad19160deafb9f47f8e0767ede273b9e71ccac1c6c2f39d95e5960475894b9fa"), looks := false }, kinds := [], alts := [], laidByText := true, laidKinds := [.data], laidTests := true, laidLooks := .later }
def BoardValidUptoCardSaid : Prop := Claim7.holds Tryz.pinned (.plain (OpenSpec.upto boardValidSpec)) boardValidUptoCard

/-- THE SECOND FORM's CARD OF 'zeitnotlaw15.BoardFinds'. -/
def boardFindsUptoCard : Claim7 := { stood := { row := boardFindsUptoRow, standIns := [], harness := (true, "ad19160deafb9f47f8e0767ede273b9e71ccac1c6c2f39d95e5960475894b9fa"), looks := false }, kinds := [], alts := [], laidByText := true, laidKinds := [.data], laidTests := true, laidLooks := .later }
def BoardFindsUptoCardSaid : Prop := Claim7.holds Tryz.pinned (.plain (OpenSpec.upto boardFindsSpec)) boardFindsUptoCard

/-- THE SECOND FORM's CARD OF 'zeitnotlaw15.BoardTokens'. -/
def boardTokensUptoCard : Claim7 := { stood := { row := boardTokensUptoRow, standIns := [], harness := (true, "ad19160deafb9f47f8e0767ede273b9e71ccac1c6c2f39d95e5960475894b9fa"), looks := false }, kinds := [], alts := [], laidByText := true, laidKinds := [.data], laidTests := true, laidLooks := .later }
def BoardTokensUptoCardSaid : Prop := Claim7.holds Tryz.pinned (.plain (OpenSpec.upto boardTokensSpec)) boardTokensUptoCard

/-- THE SECOND FORM's CARD OF 'zeitnotlaw15.BoardMoves'. -/
def boardMovesUptoCard : Claim7 := { stood := { row := boardMovesUptoRow, standIns := [], harness := (true, "ad19160deafb9f47f8e0767ede273b9e71ccac1c6c2f39d95e5960475894b9fa"), looks := false }, kinds := [], alts := [], laidByText := true, laidKinds := [.data], laidTests := true, laidLooks := .later }
def BoardMovesUptoCardSaid : Prop := Claim7.holds Tryz.pinned (.plain (OpenSpec.upto boardMovesSpec)) boardMovesUptoCard
end Rows
end Go.Proofs.YtjaegdkkiefchaaGreatDoor
