/-
  DERIVED. GIVEN WITH THE SEED: THE CARDS: each row of YtjaegdkkiefchaaDoorRows.lean that lists a variable, with what it lists TIED to the program's text (the seventh form; the later family's looks); each row that meets fmt, with fmt's text TOLD by the authors' own Lean function (tested against real Go, not proved from fmt's source: count such statements apart). THE CARD IS WHAT COUNTS. Prove the row's statement (the work); the ties are given (YtjaegdkkiefchaaDoorTie.lean); close each card by the builder's one call (the guide's Derived/Test/ToyasCard.lean, 'card_holds'). Laid BY PROGRAM, IN A SANDBOX (cutbox-door.mjs). By AI agents, Wed Nov 11 2026. No macro, syntax, notation, axiom, sorry.
-/
import Derived.Test.YtjaegdkkiefchaaDoorRows
import GoSem.ClaimSeven
namespace Go.Proofs.YtjaegdkkiefchaaDoor
namespace Rows

/-- THE TIED CARD OF 'zeitnotlaw15.BoardNews'. -/
def boardNewsCard : Claim7 := { stood := { row := boardNewsRow, standIns := [], harness := (true, "fc667b0b0469ea244a68cbfcd07d64c47fadaff5a6738f12175953402bc71d40"), looks := false }, kinds := [], alts := [], laidByText := true, laidKinds := [.data], laidTests := true, laidLooks := .later }
def BoardNewsCardSaid : Prop := Claim7.holds Tryd.pinned (.plain (OpenSpec.ofChange boardNewsSpec)) boardNewsCard

/-- THE SECOND FORM's CARD OF 'zeitnotlaw15.BoardNews'. -/
def boardNewsUptoCard : Claim7 := { stood := { row := boardNewsUptoRow, standIns := [], harness := (true, "fc667b0b0469ea244a68cbfcd07d64c47fadaff5a6738f12175953402bc71d40"), looks := false }, kinds := [], alts := [], laidByText := true, laidKinds := [.data], laidTests := true, laidLooks := .later }
def BoardNewsUptoCardSaid : Prop := Claim7.holds Tryd.pinned (.plain (OpenSpec.upto boardNewsSpec)) boardNewsUptoCard
end Rows
end Go.Proofs.YtjaegdkkiefchaaDoor
