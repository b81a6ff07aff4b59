/-
  DERIVED. GIVEN WITH THE SEED: THE CARDS: each row of YtafnobmndgjeaaaDoorRows.lean that lists a variable, with what it lists TIED to the program's text (the seventh form; the later family's looks); each row that meets fmt, with fmt's text TOLD by the authors' own Lean function (tested against real Go, not proved from fmt's source: count such statements apart). THE CARD IS WHAT COUNTS. Prove the row's statement (the work); the ties are given (YtafnobmndgjeaaaDoorTie.lean); close each card by the builder's one call (the guide's Derived/Test/ToyasCard.lean, 'card_holds'). Laid BY PROGRAM, IN A SANDBOX (cutbox-door.mjs). By AI agents, Wed Nov 11 2026. No macro, syntax, notation, axiom, sorry.
-/
import Derived.Test.YtafnobmndgjeaaaDoorRows
import GoSem.ClaimSeven
namespace Go.Proofs.YtafnobmndgjeaaaDoor
namespace Rows

/-- THE TIED CARD OF 'zeitnotlaw26.ResultJudges'. -/
def resultJudgesCard : Claim7 := { stood := { row := resultJudgesRow, standIns := [], harness := (true, "7e2016211b7b368e8f645c90f1c12f1c242191c49ef0037c278f0e69b3e7ee23"), looks := false }, kinds := [], alts := [], laidByText := true, laidKinds := [.widerDeep, .widerDeep], laidTests := true, laidLooks := .later }
def ResultJudgesCardSaid : Prop := Claim7.holds Tryd.pinned (.plain (OpenSpec.ofChange resultJudgesSpec)) resultJudgesCard

/-- THE TIED CARD OF 'zeitnotlaw26.ResultPrompts'. -/
def resultPromptsCard : Claim7 := { stood := { row := resultPromptsRow, standIns := [], harness := (true, "7e2016211b7b368e8f645c90f1c12f1c242191c49ef0037c278f0e69b3e7ee23"), looks := false }, kinds := [], alts := [], laidByText := true, laidKinds := [.widerDeep, .widerDeep], laidTests := true, laidLooks := .later }
def ResultPromptsCardSaid : Prop := Claim7.holds Tryd.pinned (.plain (OpenSpec.ofChange resultPromptsSpec)) resultPromptsCard

/-- THE TIED CARD OF 'zeitnotlaw26.ResultTexts'. -/
def resultTextsCard : Claim7 := { stood := { row := resultTextsRow, standIns := [], harness := (true, "7e2016211b7b368e8f645c90f1c12f1c242191c49ef0037c278f0e69b3e7ee23"), looks := false }, kinds := [], alts := [], laidByText := true, laidKinds := [.widerDeep, .widerDeep], laidTests := true, laidLooks := .later }
def ResultTextsCardSaid : Prop := Claim7.holds Tryd.pinned (.plain (OpenSpec.ofChange resultTextsSpec)) resultTextsCard

/-- THE SECOND FORM's CARD OF 'zeitnotlaw26.ResultJudges'. -/
def resultJudgesUptoCard : Claim7 := { stood := { row := resultJudgesUptoRow, standIns := [], harness := (true, "7e2016211b7b368e8f645c90f1c12f1c242191c49ef0037c278f0e69b3e7ee23"), looks := false }, kinds := [], alts := [], laidByText := true, laidKinds := [.widerDeep, .widerDeep], laidTests := true, laidLooks := .later }
def ResultJudgesUptoCardSaid : Prop := Claim7.holds Tryd.pinned (.plain (OpenSpec.upto resultJudgesSpec)) resultJudgesUptoCard

/-- THE SECOND FORM's CARD OF 'zeitnotlaw26.ResultPrompts'. -/
def resultPromptsUptoCard : Claim7 := { stood := { row := resultPromptsUptoRow, standIns := [], harness := (true, "7e2016211b7b368e8f645c90f1c12f1c242191c49ef0037c278f0e69b3e7ee23"), looks := false }, kinds := [], alts := [], laidByText := true, laidKinds := [.widerDeep, .widerDeep], laidTests := true, laidLooks := .later }
def ResultPromptsUptoCardSaid : Prop := Claim7.holds Tryd.pinned (.plain (OpenSpec.upto resultPromptsSpec)) resultPromptsUptoCard

/-- THE SECOND FORM's CARD OF 'zeitnotlaw26.ResultTexts'. -/
def resultTextsUptoCard : Claim7 := { stood := { row := resultTextsUptoRow, standIns := [], harness := (true, "7e2016211b7b368e8f645c90f1c12f1c242191c49ef0037c278f0e69b3e7ee23"), looks := false }, kinds := [], alts := [], laidByText := true, laidKinds := [.widerDeep, .widerDeep], laidTests := true, laidLooks := .later }
def ResultTextsUptoCardSaid : Prop := Claim7.holds Tryd.pinned (.plain (OpenSpec.upto resultTextsSpec)) resultTextsUptoCard
end Rows
end Go.Proofs.YtafnobmndgjeaaaDoor
