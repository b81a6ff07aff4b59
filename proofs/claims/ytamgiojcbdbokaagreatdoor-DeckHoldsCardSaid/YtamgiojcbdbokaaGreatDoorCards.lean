/-
  DERIVED. GIVEN WITH THE SEED: THE CARDS: each row of YtamgiojcbdbokaaGreatDoorRows.lean that lists a variable, with what it lists TIED to the program's text (the seventh form; the later family's looks); each row that meets fmt, with fmt's text TOLD by the authors' own Lean function (tested against real Go, not proved from fmt's source: count such statements apart). THE CARD IS WHAT COUNTS. Prove the row's statement (the work); the ties are given (YtamgiojcbdbokaaGreatDoorTie.lean); close each card by the builder's one call (the guide's Derived/Test/ToyasCard.lean, 'card_holds'). Laid BY PROGRAM, IN A SANDBOX (cutbox-door.mjs). By AI agents, Wed Nov 11 2026. No macro, syntax, notation, axiom, sorry.
-/
import Derived.Test.YtamgiojcbdbokaaGreatDoorRows
import GoSem.ClaimSeven
namespace Go.Proofs.YtamgiojcbdbokaaGreatDoor
namespace Rows

/-- THE TIED CARD OF 'zeitnotlaw09.DeckChecks'. -/
def deckChecksCard : Claim7 := { stood := { row := deckChecksRow, standIns := [], harness := (true, "82ee6e96cf104bbe9e540b4539e21603ab777464a83f15cb8eb96169ca6762c8"), looks := true }, kinds := [], alts := [], laidByText := true, laidKinds := [.data, .data, .data, .data, .sentinel, .sentinel, .pinned], laidTests := true, laidLooks := .later }
def DeckChecksCardSaid : Prop := Claim7.holds Tryz.pinned (.plain (OpenSpec.ofChange deckChecksSpec)) deckChecksCard

/-- THE TIED CARD OF 'zeitnotlaw09.DeckOf'. -/
def deckOfCard : Claim7 := { stood := { row := deckOfRow, standIns := [], harness := (true, "82ee6e96cf104bbe9e540b4539e21603ab777464a83f15cb8eb96169ca6762c8"), looks := true }, kinds := [], alts := [], laidByText := true, laidKinds := [.data, .data, .data, .data, .sentinel, .sentinel, .pinned], laidTests := true, laidLooks := .later }
def DeckOfCardSaid : Prop := Claim7.holds Tryz.pinned (.plain (OpenSpec.ofChange deckOfSpec)) deckOfCard

/-- THE TIED CARD OF 'zeitnotlaw09.DeckParses'. -/
def deckParsesCard : Claim7 := { stood := { row := deckParsesRow, standIns := [], harness := (true, "82ee6e96cf104bbe9e540b4539e21603ab777464a83f15cb8eb96169ca6762c8"), looks := true }, kinds := [], alts := [], laidByText := true, laidKinds := [.data, .data, .data, .data, .sentinel, .sentinel, .pinned], laidTests := true, laidLooks := .later }
def DeckParsesCardSaid : Prop := Claim7.holds Tryz.pinned (.plain (OpenSpec.ofChange deckParsesSpec)) deckParsesCard

/-- THE TIED CARD OF 'zeitnotlaw09.DeckCards'. -/
def deckCardsCard : Claim7 := { stood := { row := deckCardsRow, standIns := [], harness := (true, "82ee6e96cf104bbe9e540b4539e21603ab777464a83f15cb8eb96169ca6762c8"), looks := true }, kinds := [], alts := [], laidByText := true, laidKinds := [.data, .data, .data, .data, .sentinel, .sentinel, .pinned], laidTests := true, laidLooks := .later }
def DeckCardsCardSaid : Prop := Claim7.holds Tryz.pinned (.plain (OpenSpec.ofChange deckCardsSpec)) deckCardsCard

/-- THE TIED CARD OF 'zeitnotlaw09.DeckHolds'. -/
def deckHoldsCard : Claim7 := { stood := { row := deckHoldsRow, standIns := [], harness := (true, "82ee6e96cf104bbe9e540b4539e21603ab777464a83f15cb8eb96169ca6762c8"), looks := true }, kinds := [], alts := [], laidByText := true, laidKinds := [.data, .data, .data, .data, .sentinel, .sentinel, .pinned], laidTests := true, laidLooks := .later }
def DeckHoldsCardSaid : Prop := Claim7.holds Tryz.pinned (.plain (OpenSpec.ofChange deckHoldsSpec)) deckHoldsCard

/-- THE SECOND FORM's CARD OF 'zeitnotlaw09.DeckChecks'. -/
def deckChecksUptoCard : Claim7 := { stood := { row := deckChecksUptoRow, standIns := [], harness := (true, "82ee6e96cf104bbe9e540b4539e21603ab777464a83f15cb8eb96169ca6762c8"), looks := true }, kinds := [], alts := [], laidByText := true, laidKinds := [.data, .data, .data, .data, .sentinel, .sentinel, .pinned], laidTests := true, laidLooks := .later }
def DeckChecksUptoCardSaid : Prop := Claim7.holds Tryz.pinned (.plain (OpenSpec.upto deckChecksSpec)) deckChecksUptoCard

/-- THE SECOND FORM's CARD OF 'zeitnotlaw09.DeckOf'. -/
def deckOfUptoCard : Claim7 := { stood := { row := deckOfUptoRow, standIns := [], harness := (true, "82ee6e96cf104bbe9e540b4539e21603ab777464a83f15cb8eb96169ca6762c8"), looks := true }, kinds := [], alts := [], laidByText := true, laidKinds := [.data, .data, .data, .data, .sentinel, .sentinel, .pinned], laidTests := true, laidLooks := .later }
def DeckOfUptoCardSaid : Prop := Claim7.holds Tryz.pinned (.plain (OpenSpec.upto deckOfSpec)) deckOfUptoCard

/-- THE SECOND FORM's CARD OF 'zeitnotlaw09.DeckParses'. -/
def deckParsesUptoCard : Claim7 := { stood := { row := deckParsesUptoRow, standIns := [], harness := (true, "82ee6e96cf104bbe9e540b4539e21603ab777464a83f15cb8eb96169ca6762c8"), looks := true }, kinds := [], alts := [], laidByText := true, laidKinds := [.data, .data, .data, .data, .sentinel, .sentinel, .pinned], laidTests := true, laidLooks := .later }
def DeckParsesUptoCardSaid : Prop := Claim7.holds Tryz.pinned (.plain (OpenSpec.upto deckParsesSpec)) deckParsesUptoCard

/-- THE SECOND FORM's CARD OF 'zeitnotlaw09.DeckCards'. -/
def deckCardsUptoCard : Claim7 := { stood := { row := deckCardsUptoRow, standIns := [], harness := (true, "82ee6e96cf104bbe9e540b4539e21603ab777464a83f15cb8eb96169ca6762c8"), looks := true }, kinds := [], alts := [], laidByText := true, laidKinds := [.data, .data, .data, .data, .sentinel, .sentinel, .pinned], laidTests := true, laidLooks := .later }
def DeckCardsUptoCardSaid : Prop := Claim7.holds Tryz.pinned (.plain (OpenSpec.upto deckCardsSpec)) deckCardsUptoCard

/-- THE SECOND FORM's CARD OF 'zeitnotlaw09.DeckHolds'. -/
def deckHoldsUptoCard : Claim7 := { stood := { row := deckHoldsUptoRow, standIns := [], harness := (true, "82ee6e96cf104bbe9e540b4539e21603ab777464a83f15cb8eb96169ca6762c8"), looks := true }, kinds := [], alts := [], laidByText := true, laidKinds := [.data, .data, .data, .data, .sentinel, .sentinel, .pinned], laidTests := true, laidLooks := .later }
def DeckHoldsUptoCardSaid : Prop := Claim7.holds Tryz.pinned (.plain (OpenSpec.upto deckHoldsSpec)) deckHoldsUptoCard
end Rows
end Go.Proofs.YtamgiojcbdbokaaGreatDoor
