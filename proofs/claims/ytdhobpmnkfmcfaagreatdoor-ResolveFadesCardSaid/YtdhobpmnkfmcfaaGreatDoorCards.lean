/-
  DERIVED. GIVEN WITH THE SEED: THE CARDS: each row of YtdhobpmnkfmcfaaGreatDoorRows.lean that lists a variable, with what it lists TIED to the program's text (the seventh form; the later family's looks); each row that meets fmt, with fmt's text TOLD by the authors' own Lean function (tested against real Go, not proved from fmt's source: count such statements apart). THE CARD IS WHAT COUNTS. Prove the row's statement (the work); the ties are given (YtdhobpmnkfmcfaaGreatDoorTie.lean); close each card by the builder's one call (the guide's Derived/Test/ToyasCard.lean, 'card_holds'). Laid BY PROGRAM, IN A SANDBOX (cutbox-door.mjs). By AI agents, Wed Nov 11 2026. No macro, syntax, notation, axiom, sorry.
-/
import Derived.Test.YtdhobpmnkfmcfaaGreatDoorRows
import GoSem.ClaimSeven
namespace Go.Proofs.YtdhobpmnkfmcfaaGreatDoor
namespace Rows

/-- THE TIED CARD OF 'zeitnotlaw20.ResolveEffects'. -/
def resolveEffectsCard : Claim7 := { stood := { row := resolveEffectsRow, standIns := [], harness := (true, "447a777f604c810c9fd257a5c4107233ceb265284c7eca2c4142b010c32e51c5"), looks := false }, kinds := [], alts := [], laidByText := true, laidKinds := [.data], laidTests := true, laidLooks := .later }
def ResolveEffectsCardSaid : Prop := Claim7.holds Tryz.pinned (.plain (OpenSpec.ofChange resolveEffectsSpec)) resolveEffectsCard

/-- THE TIED CARD OF 'zeitnotlaw20.ResolveRows'. -/
def resolveRowsCard : Claim7 := { stood := { row := resolveRowsRow, standIns := [], harness := (true, "447a777f604c810c9fd257a5c4107233ceb265284c7eca2c4142b010c32e51c5"), looks := false }, kinds := [], alts := [], laidByText := true, laidKinds := [.data], laidTests := true, laidLooks := .later }
def ResolveRowsCardSaid : Prop := Claim7.holds Tryz.pinned (.plain (OpenSpec.ofChange resolveRowsSpec)) resolveRowsCard

/-- THE TIED CARD OF 'zeitnotlaw20.ResolveTops'. -/
def resolveTopsCard : Claim7 := { stood := { row := resolveTopsRow, standIns := [], harness := (true, "447a777f604c810c9fd257a5c4107233ceb265284c7eca2c4142b010c32e51c5"), looks := false }, kinds := [], alts := [], laidByText := true, laidKinds := [.data], laidTests := true, laidLooks := .later }
def ResolveTopsCardSaid : Prop := Claim7.holds Tryz.pinned (.plain (OpenSpec.ofChange resolveTopsSpec)) resolveTopsCard

/-- THE TIED CARD OF 'zeitnotlaw20.ResolveFades'. -/
def resolveFadesCard : Claim7 := { stood := { row := resolveFadesRow, standIns := [], harness := (true, "447a777f604c810c9fd257a5c4107233ceb265284c7eca2c4142b010c32e51c5"), looks := false }, kinds := [], alts := [], laidByText := true, laidKinds := [.data], laidTests := true, laidLooks := .later }
def ResolveFadesCardSaid : Prop := Claim7.holds Tryz.pinned (.plain (OpenSpec.ofChange resolveFadesSpec)) resolveFadesCard

/-- THE TIED CARD OF 'zeitnotlaw20.ResolveHolds'. -/
def resolveHoldsCard : Claim7 := { stood := { row := resolveHoldsRow, standIns := [], harness := (true, "447a777f604c810c9fd257a5c4107233ceb265284c7eca2c4142b010c32e51c5"), looks := false }, kinds := [], alts := [], laidByText := true, laidKinds := [.data], laidTests := true, laidLooks := .later }
def ResolveHoldsCardSaid : Prop := Claim7.holds Tryz.pinned (.plain (OpenSpec.ofChange resolveHoldsSpec)) resolveHoldsCard

/-- THE SECOND FORM's CARD OF 'zeitnotlaw20.ResolveEffects'. -/
def resolveEffectsUptoCard : Claim7 := { stood := { row := resolveEffectsUptoRow, standIns := [], harness := (true, "447a777f604c810c9fd257a5c4107233ceb265284c7eca2c4142b010c32e51c5"), looks := false }, kinds := [], alts := [], laidByText := true, laidKinds := [.data], laidTests := true, laidLooks := .later }
def ResolveEffectsUptoCardSaid : Prop := Claim7.holds Tryz.pinned (.plain (OpenSpec.upto resolveEffectsSpec)) resolveEffectsUptoCard

/-- THE SECOND FORM's CARD OF 'zeitnotlaw20.ResolveRows'. -/
def resolveRowsUptoCard : Claim7 := { stood := { row := resolveRowsUptoRow, standIns := [], harness := (true, "447a777f604c810c9fd257a5c4107233ceb265284c7eca2c4142b010c32e51c5"), looks := false }, kinds := [], alts := [], laidByText := true, laidKinds := [.data], laidTests := true, laidLooks := .later }
def ResolveRowsUptoCardSaid : Prop := Claim7.holds Tryz.pinned (.plain (OpenSpec.upto resolveRowsSpec)) resolveRowsUptoCard

/-- THE SECOND FORM's CARD OF 'zeitnotlaw20.ResolveTops'. -/
def resolveTopsUptoCard : Claim7 := { stood := { row := resolveTopsUptoRow, standIns := [], harness := (true, "447a777f604c810c9fd257a5c4107233ceb265284c7eca2c4142b010c32e51c5"), looks := false }, kinds := [], alts := [], laidByText := true, laidKinds := [.data], laidTests := true, laidLooks := .later }
def ResolveTopsUptoCardSaid : Prop := Claim7.holds Tryz.pinned (.plain (OpenSpec.upto resolveTopsSpec)) resolveTopsUptoCard

/-- THE SECOND FORM's CARD OF 'zeitnotlaw20.ResolveFades'. -/
def resolveFadesUptoCard : Claim7 := { stood := { row := resolveFadesUptoRow, standIns := [], harness := (true, "447a777f604c810c9fd257a5c4107233ceb265284c7eca2c4142b010c32e51c5"), looks := false }, kinds := [], alts := [], laidByText := true, laidKinds := [.data], laidTests := true, laidLooks := .later }
def ResolveFadesUptoCardSaid : Prop := Claim7.holds Tryz.pinned (.plain (OpenSpec.upto resolveFadesSpec)) resolveFadesUptoCard

/-- THE SECOND FORM's CARD OF 'zeitnotlaw20.ResolveHolds'. -/
def resolveHoldsUptoCard : Claim7 := { stood := { row := resolveHoldsUptoRow, standIns := [], harness := (true, "447a777f604c810c9fd257a5c4107233ceb265284c7eca2c4142b010c32e51c5"), looks := false }, kinds := [], alts := [], laidByText := true, laidKinds := [.data], laidTests := true, laidLooks := .later }
def ResolveHoldsUptoCardSaid : Prop := Claim7.holds Tryz.pinned (.plain (OpenSpec.upto resolveHoldsSpec)) resolveHoldsUptoCard
end Rows
end Go.Proofs.YtdhobpmnkfmcfaaGreatDoor
