/-
  NARROWER THAN 'FOR EVERY INPUT', by the rows' own cells (each row's printed sentence says how): ResultJudges: laid · ResultPrompts: laid · ResultTexts: laid.
  DERIVED. THE GIVEN ROWS OF THIS SEAT. 3 by the template 'for every input the law returns true; each argument reads behind the call as it read before'; 0 by the template 'total and deterministic' (their statements: YtafnobmndgjeaaaDoorTotals.lean).
  GIVEN WITH THE SEED: the statements are not yours to turn. If you find one false, say at which input.
  Laid BY PROGRAM, IN A SANDBOX (cutbox-rows.mjs): the forced cells as the released guide's own fill.sh prints them over the translation 038e3383653043ab… (all of the seat's roots in one cut). By AI agents, Wed Nov 11 2026. No macro, syntax, notation, axiom, sorry.
-/
import Derived.Test.YtafnobmndgjeaaaDoorChecked
import GoSem.Claim
import GoSem.ClaimJoined
import GoSem.ClaimMapViews
import Derived.JoinedTies
import Derived.KernelRfl
namespace Go.Proofs.YtafnobmndgjeaaaDoor
/- THE CELL 'sum', in the pinned program and in every row, IS THE sha256 OF THE DUMP (.gsa) THAT YtafnobmndgjeaaaDoorProg.lean LOADS. Nothing in Lean hashes anything: it is a label: what it is worth is what the hold of that sum in a sandbox is worth. -/
noncomputable def Tryd.pinned : Pinned := { name := "ytafnobmndgjeaaadoor", sum := "038e3383653043abb7672efda68812ab8aad724817e2f089525b30e107c7380a", checked := Tryd.checked }
namespace Rows
def none {H : Type} : Left H := { results := [], args := [] }

/- WHAT THE LISTED PACKAGE-LEVEL VARIABLES READ AS WHEN THE CALL BEGINS. Each datum BY PROGRAM (the guide's laid-datum.mjs) off the statement by which the dump's own 'gosem.cut.vars' lays the variable. In a bare row this is a premise. The card (YtafnobmndgjeaaaDoorCards.lean) ties it to the program's text. -/
def laid_zeitnot_result_outcomes {H : Type} : DataW H := .agg [.lit (.string [110, 111, 110, 101]), .lit (.string [122, 101, 114, 111]), .lit (.string [111, 110, 101]), .lit (.string [100, 114, 97, 119])]
def laid_zeitnot_result_reasons {H : Type} : DataW H := .agg [.lit (.string []), .lit (.string [108, 105, 102, 101]), .lit (.string [100, 101, 99, 107]), .lit (.string [99, 111, 110, 99, 101, 100, 101]), .lit (.string [116, 105, 109, 101]), .lit (.string [99, 97, 112])]

/-- 'zeitnotlaw26.ResultJudges': WHATEVER THE INPUT: true; the input reads as it did. -/
def resultJudgesSpec : ChangeSpec := { name := "resultJudges", fn := fun _ => fun
  | [d1, d2, d3] => { results := [.lit (.bool true)], args := [d1, d2, d3] }
  | _ => none }
def resultJudgesRow : OpenClaim := { program := "ytafnobmndgjeaaadoor", sum := "038e3383653043abb7672efda68812ab8aad724817e2f089525b30e107c7380a", func := "zeitnot/zeitnotlaw26.ResultJudges", spec := "resultJudges", inPlace := ["internal/bytealg.IndexByteString", "internal/bytealg.IndexString"], named := ["zeitnot/result.outcomes", "zeitnot/result.reasons", "internal/bytealg.MaxLen"], apart := false, laid := [("zeitnot/result.outcomes", laid_zeitnot_result_outcomes), ("zeitnot/result.reasons", laid_zeitnot_result_reasons)] }
def ResultJudgesSaid : Prop := resultJudgesRow.holds Tryd.pinned (OpenSpec.ofChange resultJudgesSpec)

/-- ITS FALSE NEIGHBOUR: 'it returns false'. Refute it at one input. -/
def resultJudgesWrong : ChangeSpec := { name := "resultJudges", fn := fun _ => fun
  | [d1, d2, d3] => { results := [.lit (.bool false)], args := [d1, d2, d3] }
  | _ => none }
def ResultJudgesWrongFalsely : Prop := resultJudgesRow.holds Tryd.pinned (OpenSpec.ofChange resultJudgesWrong)

/-- 'zeitnotlaw26.ResultPrompts': WHATEVER THE INPUT: true; the input reads as it did. -/
def resultPromptsSpec : ChangeSpec := { name := "resultPrompts", fn := fun _ => fun
  | [d] => { results := [.lit (.bool true)], args := [d] }
  | _ => none }
def resultPromptsRow : OpenClaim := { program := "ytafnobmndgjeaaadoor", sum := "038e3383653043abb7672efda68812ab8aad724817e2f089525b30e107c7380a", func := "zeitnot/zeitnotlaw26.ResultPrompts", spec := "resultPrompts", inPlace := ["internal/bytealg.IndexByteString", "internal/bytealg.IndexString"], named := ["zeitnot/result.outcomes", "zeitnot/result.reasons", "internal/bytealg.MaxLen"], apart := false, laid := [("zeitnot/result.outcomes", laid_zeitnot_result_outcomes), ("zeitnot/result.reasons", laid_zeitnot_result_reasons)] }
def ResultPromptsSaid : Prop := resultPromptsRow.holds Tryd.pinned (OpenSpec.ofChange resultPromptsSpec)

/-- ITS FALSE NEIGHBOUR: 'it returns false'. Refute it at one input. -/
def resultPromptsWrong : ChangeSpec := { name := "resultPrompts", fn := fun _ => fun
  | [d] => { results := [.lit (.bool false)], args := [d] }
  | _ => none }
def ResultPromptsWrongFalsely : Prop := resultPromptsRow.holds Tryd.pinned (OpenSpec.ofChange resultPromptsWrong)

/-- 'zeitnotlaw26.ResultTexts': WHATEVER THE INPUT: true; the input reads as it did. -/
def resultTextsSpec : ChangeSpec := { name := "resultTexts", fn := fun _ => fun
  | [d1, d2] => { results := [.lit (.bool true)], args := [d1, d2] }
  | _ => none }
def resultTextsRow : OpenClaim := { program := "ytafnobmndgjeaaadoor", sum := "038e3383653043abb7672efda68812ab8aad724817e2f089525b30e107c7380a", func := "zeitnot/zeitnotlaw26.ResultTexts", spec := "resultTexts", inPlace := ["internal/bytealg.IndexByteString", "internal/bytealg.IndexString"], named := ["zeitnot/result.outcomes", "zeitnot/result.reasons", "internal/bytealg.MaxLen"], apart := false, laid := [("zeitnot/result.outcomes", laid_zeitnot_result_outcomes), ("zeitnot/result.reasons", laid_zeitnot_result_reasons)] }
def ResultTextsSaid : Prop := resultTextsRow.holds Tryd.pinned (OpenSpec.ofChange resultTextsSpec)

/-- ITS FALSE NEIGHBOUR: 'it returns false'. Refute it at one input. -/
def resultTextsWrong : ChangeSpec := { name := "resultTexts", fn := fun _ => fun
  | [d1, d2] => { results := [.lit (.bool false)], args := [d1, d2] }
  | _ => none }
def ResultTextsWrongFalsely : Prop := resultTextsRow.holds Tryd.pinned (OpenSpec.ofChange resultTextsWrong)

/- THE SECOND FORM. 'bulk': how many values and letters a reading holds, each counted each time it is reached (what is shared counts as often as it is met; a slice's spare places count too). A statement '..UptoSaid' is the law's where the arguments, and the package variables that the reading takes, are together of bulk at most 1048576: NARROWER than '..Said'. Prove '..Said' where nothing that the law and all that it calls make is longer than what came in: it says more and counts as full. Else prove '..UptoSaid'. A law counts once. -/
mutual
def uptoBulk {H : Type} : DataW H → Nat
  | .lit (.string bytes) => bytes.length + 1
  | .lit _ => 1
  | .nil => 1
  | .ptr d => uptoBulk d + 1
  | .slice elems spare => uptoBulkAll elems + uptoBulkAll spare + 1
  | .agg parts => uptoBulkAll parts + 1
  | .iface _ d => uptoBulk d + 1
  | .map entries => uptoBulkEntries entries + 1
  | .held _ => 1
def uptoBulkAll {H : Type} : List (DataW H) → Nat
  | [] => 0
  | d :: r => uptoBulk d + uptoBulkAll r
def uptoBulkEntries {H : Type} : List (Lit × DataW H) → Nat
  | [] => 0
  | x :: r => uptoBulkEntry x + uptoBulkEntries r
def uptoBulkEntry {H : Type} : Lit × DataW H → Nat
  | (.string bytes, d) => bytes.length + uptoBulk d + 1
  | (_, d) => uptoBulk d + 1
 end
def uptoSmall : (H : Type) → List (DataW H) → Bool := fun _ ds => decide (uptoBulkAll ds ≤ 1048576)
def OpenSpec.upto (s : _root_.Go.ChangeSpec) : _root_.Go.OpenSpec := { _root_.Go.OpenSpec.ofChange s with cond := some uptoSmall }

/-- 'zeitnotlaw26.ResultJudges', WHERE WHAT IT READS IS OF BULK AT MOST 1048576: true; the input reads as it did. -/
def resultJudgesUptoRow : OpenClaim := { program := "ytafnobmndgjeaaadoor", sum := "038e3383653043abb7672efda68812ab8aad724817e2f089525b30e107c7380a", func := "zeitnot/zeitnotlaw26.ResultJudges", spec := "resultJudges", inPlace := ["internal/bytealg.IndexByteString", "internal/bytealg.IndexString"], named := ["zeitnot/result.outcomes", "zeitnot/result.reasons", "internal/bytealg.MaxLen"], apart := false, laid := [("zeitnot/result.outcomes", laid_zeitnot_result_outcomes), ("zeitnot/result.reasons", laid_zeitnot_result_reasons)], narrowed := true }
def ResultJudgesUptoSaid : Prop := resultJudgesUptoRow.holds Tryd.pinned (OpenSpec.upto resultJudgesSpec)

/-- 'zeitnotlaw26.ResultPrompts', WHERE WHAT IT READS IS OF BULK AT MOST 1048576: true; the input reads as it did. -/
def resultPromptsUptoRow : OpenClaim := { program := "ytafnobmndgjeaaadoor", sum := "038e3383653043abb7672efda68812ab8aad724817e2f089525b30e107c7380a", func := "zeitnot/zeitnotlaw26.ResultPrompts", spec := "resultPrompts", inPlace := ["internal/bytealg.IndexByteString", "internal/bytealg.IndexString"], named := ["zeitnot/result.outcomes", "zeitnot/result.reasons", "internal/bytealg.MaxLen"], apart := false, laid := [("zeitnot/result.outcomes", laid_zeitnot_result_outcomes), ("zeitnot/result.reasons", laid_zeitnot_result_reasons)], narrowed := true }
def ResultPromptsUptoSaid : Prop := resultPromptsUptoRow.holds Tryd.pinned (OpenSpec.upto resultPromptsSpec)

/-- 'zeitnotlaw26.ResultTexts', WHERE WHAT IT READS IS OF BULK AT MOST 1048576: true; the input reads as it did. -/
def resultTextsUptoRow : OpenClaim := { program := "ytafnobmndgjeaaadoor", sum := "038e3383653043abb7672efda68812ab8aad724817e2f089525b30e107c7380a", func := "zeitnot/zeitnotlaw26.ResultTexts", spec := "resultTexts", inPlace := ["internal/bytealg.IndexByteString", "internal/bytealg.IndexString"], named := ["zeitnot/result.outcomes", "zeitnot/result.reasons", "internal/bytealg.MaxLen"], apart := false, laid := [("zeitnot/result.outcomes", laid_zeitnot_result_outcomes), ("zeitnot/result.reasons", laid_zeitnot_result_reasons)], narrowed := true }
def ResultTextsUptoSaid : Prop := resultTextsUptoRow.holds Tryd.pinned (OpenSpec.upto resultTextsSpec)

end Rows
end Go.Proofs.YtafnobmndgjeaaaDoor
