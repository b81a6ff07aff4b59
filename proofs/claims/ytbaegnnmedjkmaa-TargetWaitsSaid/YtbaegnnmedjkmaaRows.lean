/-
  No cell of these rows narrows 'for every input' (looked for: loops, veiled, ifaces, maps, wideKeys, modest, calm, conditions, laid).
  DERIVED. THE GIVEN ROWS OF THIS SEAT. 4 by the template 'for every input the law returns true; each argument reads behind the call as it read before'; 0 by the template 'total and deterministic' (their statements: YtbaegnnmedjkmaaTotals.lean).
  GIVEN WITH THE SEED: the statements are not yours to turn. If you find one false, say at which input.
  Laid BY PROGRAM, IN A SANDBOX (cutbox-rows.mjs): the forced cells as the released guide's own fill.sh prints them over the translation 9ef92dffed23c857… (all of the seat's roots in one cut). By AI agents, Wed Nov 11 2026. No macro, syntax, notation, axiom, sorry.
-/
import Derived.Test.YtbaegnnmedjkmaaChecked
import GoSem.Claim
import GoSem.ClaimJoined
import GoSem.ClaimMapViews
import Derived.JoinedTies
import Derived.KernelRfl
namespace Go.Proofs.Ytbaegnnmedjkmaa
/- THE CELL 'sum', in the pinned program and in every row, IS THE sha256 OF THE DUMP (.gsa) THAT YtbaegnnmedjkmaaProg.lean LOADS. Nothing in Lean hashes anything: it is a label: what it is worth is what the hold of that sum in a sandbox is worth. -/
noncomputable def Try.pinned : Pinned := { name := "ytbaegnnmedjkmaa", sum := "9ef92dffed23c8572ed69824ed09401dade14aa4a506d3248a6089cae997e46c", checked := Try.checked }
namespace Rows
def none {H : Type} : Left H := { results := [], args := [] }

/-- 'zeitnotlaw16.TargetNeeds': WHATEVER THE INPUT: true; the input reads as it did. -/
def targetNeedsSpec : ChangeSpec := { name := "targetNeeds", fn := fun _ => fun
  | [d1, d2, d3, d4] => { results := [.lit (.bool true)], args := [d1, d2, d3, d4] }
  | _ => none }
def targetNeedsRow : OpenClaim := { program := "ytbaegnnmedjkmaa", sum := "9ef92dffed23c8572ed69824ed09401dade14aa4a506d3248a6089cae997e46c", func := "zeitnot/zeitnotlaw16.TargetNeeds", spec := "targetNeeds", unfollowed := true, recurses := true, apart := false }
def TargetNeedsSaid : Prop := targetNeedsRow.holds Try.pinned (OpenSpec.ofChange targetNeedsSpec)

/-- ITS FALSE NEIGHBOUR: 'it returns false'. Refute it at one input. -/
def targetNeedsWrong : ChangeSpec := { name := "targetNeeds", fn := fun _ => fun
  | [d1, d2, d3, d4] => { results := [.lit (.bool false)], args := [d1, d2, d3, d4] }
  | _ => none }
def TargetNeedsWrongFalsely : Prop := targetNeedsRow.holds Try.pinned (OpenSpec.ofChange targetNeedsWrong)

/-- 'zeitnotlaw16.TargetWaits': WHATEVER THE INPUT: true; the input reads as it did. -/
def targetWaitsSpec : ChangeSpec := { name := "targetWaits", fn := fun _ => fun
  | [d1, d2, d3, d4] => { results := [.lit (.bool true)], args := [d1, d2, d3, d4] }
  | _ => none }
def targetWaitsRow : OpenClaim := { program := "ytbaegnnmedjkmaa", sum := "9ef92dffed23c8572ed69824ed09401dade14aa4a506d3248a6089cae997e46c", func := "zeitnot/zeitnotlaw16.TargetWaits", spec := "targetWaits", unfollowed := true, recurses := true, apart := false }
def TargetWaitsSaid : Prop := targetWaitsRow.holds Try.pinned (OpenSpec.ofChange targetWaitsSpec)

/-- ITS FALSE NEIGHBOUR: 'it returns false'. Refute it at one input. -/
def targetWaitsWrong : ChangeSpec := { name := "targetWaits", fn := fun _ => fun
  | [d1, d2, d3, d4] => { results := [.lit (.bool false)], args := [d1, d2, d3, d4] }
  | _ => none }
def TargetWaitsWrongFalsely : Prop := targetWaitsRow.holds Try.pinned (OpenSpec.ofChange targetWaitsWrong)

/-- 'zeitnotlaw16.TargetMoves': WHATEVER THE INPUT: true; the input reads as it did. -/
def targetMovesSpec : ChangeSpec := { name := "targetMoves", fn := fun _ => fun
  | [d1, d2, d3, d4] => { results := [.lit (.bool true)], args := [d1, d2, d3, d4] }
  | _ => none }
def targetMovesRow : OpenClaim := { program := "ytbaegnnmedjkmaa", sum := "9ef92dffed23c8572ed69824ed09401dade14aa4a506d3248a6089cae997e46c", func := "zeitnot/zeitnotlaw16.TargetMoves", spec := "targetMoves", unfollowed := true, recurses := true, apart := false }
def TargetMovesSaid : Prop := targetMovesRow.holds Try.pinned (OpenSpec.ofChange targetMovesSpec)

/-- ITS FALSE NEIGHBOUR: 'it returns false'. Refute it at one input. -/
def targetMovesWrong : ChangeSpec := { name := "targetMoves", fn := fun _ => fun
  | [d1, d2, d3, d4] => { results := [.lit (.bool false)], args := [d1, d2, d3, d4] }
  | _ => none }
def TargetMovesWrongFalsely : Prop := targetMovesRow.holds Try.pinned (OpenSpec.ofChange targetMovesWrong)

/-- 'zeitnotlaw16.TargetHolds': WHATEVER THE INPUT: true; the input reads as it did. -/
def targetHoldsSpec : ChangeSpec := { name := "targetHolds", fn := fun _ => fun
  | [d1, d2, d3] => { results := [.lit (.bool true)], args := [d1, d2, d3] }
  | _ => none }
def targetHoldsRow : OpenClaim := { program := "ytbaegnnmedjkmaa", sum := "9ef92dffed23c8572ed69824ed09401dade14aa4a506d3248a6089cae997e46c", func := "zeitnot/zeitnotlaw16.TargetHolds", spec := "targetHolds", unfollowed := true, recurses := true, apart := false }
def TargetHoldsSaid : Prop := targetHoldsRow.holds Try.pinned (OpenSpec.ofChange targetHoldsSpec)

/-- ITS FALSE NEIGHBOUR: 'it returns false'. Refute it at one input. -/
def targetHoldsWrong : ChangeSpec := { name := "targetHolds", fn := fun _ => fun
  | [d1, d2, d3] => { results := [.lit (.bool false)], args := [d1, d2, d3] }
  | _ => none }
def TargetHoldsWrongFalsely : Prop := targetHoldsRow.holds Try.pinned (OpenSpec.ofChange targetHoldsWrong)

/- THE SECOND FORM. 'bulk': how many values and letters a reading holds, each counted each time it is reached (what is shared counts as often as it is met; a slice's spare places count too). A statement '..UptoSaid' is the law's where the arguments, and the package variables that the reading takes, are together of bulk at most 1048576: NARROWER than '..Said'. Prove '..Said' where nothing that the law and all that it calls make is longer than what came in: it says more and counts as full. Else prove '..UptoSaid'. A law counts once. -/
mutual
def uptoBulk {H : Type} : DataW H → Nat
  | .lit (.string bytes) => bytes.length + 1
  | .lit _ => 1
  | .nil => 1
  | .ptr d => uptoBulk d + 1
  | .slice elems spare => uptoBulkAll elems + uptoBulkAll spare + 1
  | .agg parts => uptoBulkAll parts + 1
  | .iface _ d => uptoBulk d + 1
  | .map entries => uptoBulkEntries entries + 1
  | .held _ => 1
def uptoBulkAll {H : Type} : List (DataW H) → Nat
  | [] => 0
  | d :: r => uptoBulk d + uptoBulkAll r
def uptoBulkEntries {H : Type} : List (Lit × DataW H) → Nat
  | [] => 0
  | x :: r => uptoBulkEntry x + uptoBulkEntries r
def uptoBulkEntry {H : Type} : Lit × DataW H → Nat
  | (.string bytes, d) => bytes.length + uptoBulk d + 1
  | (_, d) => uptoBulk d + 1
 end
def uptoSmall : (H : Type) → List (DataW H) → Bool := fun _ ds => decide (uptoBulkAll ds ≤ 1048576)
def OpenSpec.upto (s : _root_.Go.ChangeSpec) : _root_.Go.OpenSpec := { _root_.Go.OpenSpec.ofChange s with cond := some uptoSmall }

/-- 'zeitnotlaw16.TargetNeeds', WHERE WHAT IT READS IS OF BULK AT MOST 1048576: true; the input reads as it did. -/
def targetNeedsUptoRow : OpenClaim := { program := "ytbaegnnmedjkmaa", sum := "9ef92dffed23c8572ed69824ed09401dade14aa4a506d3248a6089cae997e46c", func := "zeitnot/zeitnotlaw16.TargetNeeds", spec := "targetNeeds", unfollowed := true, recurses := true, apart := false, narrowed := true }
def TargetNeedsUptoSaid : Prop := targetNeedsUptoRow.holds Try.pinned (OpenSpec.upto targetNeedsSpec)

/-- 'zeitnotlaw16.TargetWaits', WHERE WHAT IT READS IS OF BULK AT MOST 1048576: true; the input reads as it did. -/
def targetWaitsUptoRow : OpenClaim := { program := "ytbaegnnmedjkmaa", sum := "9ef92dffed23c8572ed69824ed09401dade14aa4a506d3248a6089cae997e46c", func := "zeitnot/zeitnotlaw16.TargetWaits", spec := "targetWaits", unfollowed := true, recurses := true, apart := false, narrowed := true }
def TargetWaitsUptoSaid : Prop := targetWaitsUptoRow.holds Try.pinned (OpenSpec.upto targetWaitsSpec)

/-- 'zeitnotlaw16.TargetMoves', WHERE WHAT IT READS IS OF BULK AT MOST 1048576: true; the input reads as it did. -/
def targetMovesUptoRow : OpenClaim := { program := "ytbaegnnmedjkmaa", sum := "9ef92dffed23c8572ed69824ed09401dade14aa4a506d3248a6089cae997e46c", func := "zeitnot/zeitnotlaw16.TargetMoves", spec := "targetMoves", unfollowed := true, recurses := true, apart := false, narrowed := true }
def TargetMovesUptoSaid : Prop := targetMovesUptoRow.holds Try.pinned (OpenSpec.upto targetMovesSpec)

/-- 'zeitnotlaw16.TargetHolds', WHERE WHAT IT READS IS OF BULK AT MOST 1048576: true; the input reads as it did. -/
def targetHoldsUptoRow : OpenClaim := { program := "ytbaegnnmedjkmaa", sum := "9ef92dffed23c8572ed69824ed09401dade14aa4a506d3248a6089cae997e46c", func := "zeitnot/zeitnotlaw16.TargetHolds", spec := "targetHolds", unfollowed := true, recurses := true, apart := false, narrowed := true }
def TargetHoldsUptoSaid : Prop := targetHoldsUptoRow.holds Try.pinned (OpenSpec.upto targetHoldsSpec)

end Rows
end Go.Proofs.Ytbaegnnmedjkmaa
