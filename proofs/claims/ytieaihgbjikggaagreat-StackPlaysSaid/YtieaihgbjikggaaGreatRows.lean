/-
  No cell of these rows narrows 'for every input' (looked for: loops, veiled, ifaces, maps, wideKeys, modest, calm, conditions, laid).
  DERIVED. THE GIVEN ROWS OF THIS SEAT. 5 by the template 'for every input the law returns true; each argument reads behind the call as it read before'; 0 by the template 'total and deterministic' (their statements: YtieaihgbjikggaaGreatTotals.lean).
  GIVEN WITH THE SEED: the statements are not yours to turn. If you find one false, say at which input.
  Laid BY PROGRAM, IN A SANDBOX (cutbox-rows.mjs): the forced cells as the released guide's own fill.sh prints them over the translation a4f51dacee9ebd02… (all of the seat's roots in one cut). By AI agents, Wed Nov 11 2026. No macro, syntax, notation, axiom, sorry.
-/
import Derived.Test.YtieaihgbjikggaaGreatChecked
import GoSem.Claim
import GoSem.ClaimJoined
import GoSem.ClaimMapViews
import Derived.JoinedTies
import Derived.KernelRfl
namespace Go.Proofs.YtieaihgbjikggaaGreat
/- THE CELL 'sum', in the pinned program and in every row, IS THE sha256 OF THE DUMP (.gsa) THAT YtieaihgbjikggaaGreatProg.lean LOADS. Nothing in Lean hashes anything: it is a label: what it is worth is what the hold of that sum in a sandbox is worth. -/
noncomputable def Tryz.pinned : Pinned := { name := "ytieaihgbjikggaagreat", sum := "a4f51dacee9ebd02812f0482f2ce112cd085c4ff8beb184d8b80a145be0bc887", checked := Tryz.checked }
namespace Rows
def none {H : Type} : Left H := { results := [], args := [] }

/-- 'zeitnotlaw18.StackPlays': WHATEVER THE INPUT: true; the input reads as it did. -/
def stackPlaysSpec : ChangeSpec := { name := "stackPlays", fn := fun _ => fun
  | [d1, d2, d3] => { results := [.lit (.bool true)], args := [d1, d2, d3] }
  | _ => none }
def stackPlaysRow : OpenClaim := { program := "ytieaihgbjikggaagreat", sum := "a4f51dacee9ebd02812f0482f2ce112cd085c4ff8beb184d8b80a145be0bc887", func := "zeitnot/zeitnotlaw18.StackPlays", spec := "stackPlays", unfollowed := true, recurses := true, apart := false }
def StackPlaysSaid : Prop := stackPlaysRow.holds Tryz.pinned (OpenSpec.ofChange stackPlaysSpec)

/-- ITS FALSE NEIGHBOUR: 'it returns false'. Refute it at one input. -/
def stackPlaysWrong : ChangeSpec := { name := "stackPlays", fn := fun _ => fun
  | [d1, d2, d3] => { results := [.lit (.bool false)], args := [d1, d2, d3] }
  | _ => none }
def StackPlaysWrongFalsely : Prop := stackPlaysRow.holds Tryz.pinned (OpenSpec.ofChange stackPlaysWrong)

/-- 'zeitnotlaw18.StackEffects': WHATEVER THE INPUT: true; the input reads as it did. -/
def stackEffectsSpec : ChangeSpec := { name := "stackEffects", fn := fun _ => fun
  | [d1, d2] => { results := [.lit (.bool true)], args := [d1, d2] }
  | _ => none }
def stackEffectsRow : OpenClaim := { program := "ytieaihgbjikggaagreat", sum := "a4f51dacee9ebd02812f0482f2ce112cd085c4ff8beb184d8b80a145be0bc887", func := "zeitnot/zeitnotlaw18.StackEffects", spec := "stackEffects", unfollowed := true, recurses := true, apart := false }
def StackEffectsSaid : Prop := stackEffectsRow.holds Tryz.pinned (OpenSpec.ofChange stackEffectsSpec)

/-- ITS FALSE NEIGHBOUR: 'it returns false'. Refute it at one input. -/
def stackEffectsWrong : ChangeSpec := { name := "stackEffects", fn := fun _ => fun
  | [d1, d2] => { results := [.lit (.bool false)], args := [d1, d2] }
  | _ => none }
def StackEffectsWrongFalsely : Prop := stackEffectsRow.holds Tryz.pinned (OpenSpec.ofChange stackEffectsWrong)

/-- 'zeitnotlaw18.StackBad': WHATEVER THE INPUT: true; the input reads as it did. -/
def stackBadSpec : ChangeSpec := { name := "stackBad", fn := fun _ => fun
  | [d1, d2, d3, d4, d5] => { results := [.lit (.bool true)], args := [d1, d2, d3, d4, d5] }
  | _ => none }
def stackBadRow : OpenClaim := { program := "ytieaihgbjikggaagreat", sum := "a4f51dacee9ebd02812f0482f2ce112cd085c4ff8beb184d8b80a145be0bc887", func := "zeitnot/zeitnotlaw18.StackBad", spec := "stackBad", unfollowed := true, recurses := true, apart := false }
def StackBadSaid : Prop := stackBadRow.holds Tryz.pinned (OpenSpec.ofChange stackBadSpec)

/-- ITS FALSE NEIGHBOUR: 'it returns false'. Refute it at one input. -/
def stackBadWrong : ChangeSpec := { name := "stackBad", fn := fun _ => fun
  | [d1, d2, d3, d4, d5] => { results := [.lit (.bool false)], args := [d1, d2, d3, d4, d5] }
  | _ => none }
def StackBadWrongFalsely : Prop := stackBadRow.holds Tryz.pinned (OpenSpec.ofChange stackBadWrong)

/-- 'zeitnotlaw18.StackFulls': WHATEVER THE INPUT: true; the input reads as it did. -/
def stackFullsSpec : ChangeSpec := { name := "stackFulls", fn := fun _ => fun
  | [d] => { results := [.lit (.bool true)], args := [d] }
  | _ => none }
def stackFullsRow : OpenClaim := { program := "ytieaihgbjikggaagreat", sum := "a4f51dacee9ebd02812f0482f2ce112cd085c4ff8beb184d8b80a145be0bc887", func := "zeitnot/zeitnotlaw18.StackFulls", spec := "stackFulls", unfollowed := true, recurses := true, apart := false }
def StackFullsSaid : Prop := stackFullsRow.holds Tryz.pinned (OpenSpec.ofChange stackFullsSpec)

/-- ITS FALSE NEIGHBOUR: 'it returns false'. Refute it at one input. -/
def stackFullsWrong : ChangeSpec := { name := "stackFulls", fn := fun _ => fun
  | [d] => { results := [.lit (.bool false)], args := [d] }
  | _ => none }
def StackFullsWrongFalsely : Prop := stackFullsRow.holds Tryz.pinned (OpenSpec.ofChange stackFullsWrong)

/-- 'zeitnotlaw18.StackHolds': WHATEVER THE INPUT: true; the input reads as it did. -/
def stackHoldsSpec : ChangeSpec := { name := "stackHolds", fn := fun _ => fun
  | [d1, d2, d3, d4, d5] => { results := [.lit (.bool true)], args := [d1, d2, d3, d4, d5] }
  | _ => none }
def stackHoldsRow : OpenClaim := { program := "ytieaihgbjikggaagreat", sum := "a4f51dacee9ebd02812f0482f2ce112cd085c4ff8beb184d8b80a145be0bc887", func := "zeitnot/zeitnotlaw18.StackHolds", spec := "stackHolds", unfollowed := true, recurses := true, apart := false }
def StackHoldsSaid : Prop := stackHoldsRow.holds Tryz.pinned (OpenSpec.ofChange stackHoldsSpec)

/-- ITS FALSE NEIGHBOUR: 'it returns false'. Refute it at one input. -/
def stackHoldsWrong : ChangeSpec := { name := "stackHolds", fn := fun _ => fun
  | [d1, d2, d3, d4, d5] => { results := [.lit (.bool false)], args := [d1, d2, d3, d4, d5] }
  | _ => none }
def StackHoldsWrongFalsely : Prop := stackHoldsRow.holds Tryz.pinned (OpenSpec.ofChange stackHoldsWrong)

/- THE SECOND FORM. 'bulk': how many values and letters a reading holds, each counted each time it is reached (what is shared counts as often as it is met; a slice's spare places count too). A statement '..UptoSaid' is the law's where the arguments, and the package variables that the reading takes, are together of bulk at most 1048576: NARROWER than '..Said'. Prove '..Said' where nothing that the law and all that it calls make is longer than what came in: it says more and counts as full. Else prove '..UptoSaid'. A law counts once. -/
mutual
def uptoBulk {H : Type} : DataW H → Nat
  | .lit (.string bytes) => bytes.length + 1
  | .lit _ => 1
  | .nil => 1
  | .ptr d => uptoBulk d + 1
  | .slice elems spare => uptoBulkAll elems + uptoBulkAll spare + 1
  | .agg parts => uptoBulkAll parts + 1
  | .iface _ d => uptoBulk d + 1
  | .map entries => uptoBulkEntries entries + 1
  | .held _ => 1
def uptoBulkAll {H : Type} : List (DataW H) → Nat
  | [] => 0
  | d :: r => uptoBulk d + uptoBulkAll r
def uptoBulkEntries {H : Type} : List (Lit × DataW H) → Nat
  | [] => 0
  | x :: r => uptoBulkEntry x + uptoBulkEntries r
def uptoBulkEntry {H : Type} : Lit × DataW H → Nat
  | (.string bytes, d) => bytes.length + uptoBulk d + 1
  | (_, d) => uptoBulk d + 1
 end
def uptoSmall : (H : Type) → List (DataW H) → Bool := fun _ ds => decide (uptoBulkAll ds ≤ 1048576)
def OpenSpec.upto (s : _root_.Go.ChangeSpec) : _root_.Go.OpenSpec := { _root_.Go.OpenSpec.ofChange s with cond := some uptoSmall }

/-- 'zeitnotlaw18.StackPlays', WHERE WHAT IT READS IS OF BULK AT MOST 1048576: true; the input reads as it did. -/
def stackPlaysUptoRow : OpenClaim := { program := "ytieaihgbjikggaagreat", sum := "a4f51dacee9ebd02812f0482f2ce112cd085c4ff8beb184d8b80a145be0bc887", func := "zeitnot/zeitnotlaw18.StackPlays", spec := "stackPlays", unfollowed := true, recurses := true, apart := false, narrowed := true }
def StackPlaysUptoSaid : Prop := stackPlaysUptoRow.holds Tryz.pinned (OpenSpec.upto stackPlaysSpec)

/-- 'zeitnotlaw18.StackEffects', WHERE WHAT IT READS IS OF BULK AT MOST 1048576: true; the input reads as it did. -/
def stackEffectsUptoRow : OpenClaim := { program := "ytieaihgbjikggaagreat", sum := "a4f51dacee9ebd02812f0482f2ce112cd085c4ff8beb184d8b80a145be0bc887", func := "zeitnot/zeitnotlaw18.StackEffects", spec := "stackEffects", unfollowed := true, recurses := true, apart := false, narrowed := true }
def StackEffectsUptoSaid : Prop := stackEffectsUptoRow.holds Tryz.pinned (OpenSpec.upto stackEffectsSpec)

/-- 'zeitnotlaw18.StackBad', WHERE WHAT IT READS IS OF BULK AT MOST 1048576: true; the input reads as it did. -/
def stackBadUptoRow : OpenClaim := { program := "ytieaihgbjikggaagreat", sum := "a4f51dacee9ebd02812f0482f2ce112cd085c4ff8beb184d8b80a145be0bc887", func := "zeitnot/zeitnotlaw18.StackBad", spec := "stackBad", unfollowed := true, recurses := true, apart := false, narrowed := true }
def StackBadUptoSaid : Prop := stackBadUptoRow.holds Tryz.pinned (OpenSpec.upto stackBadSpec)

/-- 'zeitnotlaw18.StackFulls', WHERE WHAT IT READS IS OF BULK AT MOST 1048576: true; the input reads as it did. -/
def stackFullsUptoRow : OpenClaim := { program := "ytieaihgbjikggaagreat", sum := "a4f51dacee9ebd02812f0482f2ce112cd085c4ff8beb184d8b80a145be0bc887", func := "zeitnot/zeitnotlaw18.StackFulls", spec := "stackFulls", unfollowed := true, recurses := true, apart := false, narrowed := true }
def StackFullsUptoSaid : Prop := stackFullsUptoRow.holds Tryz.pinned (OpenSpec.upto stackFullsSpec)

/-- 'zeitnotlaw18.StackHolds', WHERE WHAT IT READS IS OF BULK AT MOST 1048576: true; the input reads as it did. -/
def stackHoldsUptoRow : OpenClaim := { program := "ytieaihgbjikggaagreat", sum := "a4f51dacee9ebd02812f0482f2ce112cd085c4ff8beb184d8b80a145be0bc887", func := "zeitnot/zeitnotlaw18.StackHolds", spec := "stackHolds", unfollowed := true, recurses := true, apart := false, narrowed := true }
def StackHoldsUptoSaid : Prop := stackHoldsUptoRow.holds Tryz.pinned (OpenSpec.upto stackHoldsSpec)

end Rows
end Go.Proofs.YtieaihgbjikggaaGreat
