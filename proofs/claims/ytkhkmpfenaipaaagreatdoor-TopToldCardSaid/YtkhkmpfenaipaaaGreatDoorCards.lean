/-
  DERIVED. GIVEN WITH THE SEED: THE CARDS: each row of YtkhkmpfenaipaaaGreatDoorRows.lean that lists a variable, with what it lists TIED to the program's text (the seventh form; the later family's looks); each row that meets fmt, with fmt's text TOLD by the authors' own Lean function (tested against real Go, not proved from fmt's source: count such statements apart). THE CARD IS WHAT COUNTS. Prove the row's statement (the work); the ties are given (YtkhkmpfenaipaaaGreatDoorTie.lean); close each card by the builder's one call (the guide's Derived/Test/ToyasCard.lean, 'card_holds'). Laid BY PROGRAM, IN A SANDBOX (cutbox-door.mjs). By AI agents, Wed Nov 11 2026. No macro, syntax, notation, axiom, sorry.
-/
import Derived.Test.YtkhkmpfenaipaaaGreatDoorRows
import GoSem.ClaimSeven
namespace Go.Proofs.YtkhkmpfenaipaaaGreatDoor
namespace Rows

/-- THE TIED CARD OF 'conclavetop.TopSettled'. -/
def topSettledCard : Claim7 := { stood := { row := topSettledRow, standIns := [], harness := (true, "6772d825a89b5af04b9a144518b7eeea55fd9a27a18b2a78ca832ea1aa8c84e9"), looks := false }, kinds := [], alts := [], laidByText := true, laidKinds := [.data, .data], laidTests := true, laidLooks := .later }
def TopSettledCardSaid : Prop := Claim7.holds Tryz.pinned (.plain (OpenSpec.ofChange topSettledSpec)) topSettledCard

/-- THE TIED CARD OF 'conclavetop.TopServed'. -/
def topServedCard : Claim7 := { stood := { row := topServedRow, standIns := [], harness := (true, "6772d825a89b5af04b9a144518b7eeea55fd9a27a18b2a78ca832ea1aa8c84e9"), looks := false }, kinds := [], alts := [], laidByText := true, laidKinds := [.data, .data], laidTests := true, laidLooks := .later }
def TopServedCardSaid : Prop := Claim7.holds Tryz.pinned (.plain (OpenSpec.ofChange topServedSpec)) topServedCard

/-- THE TIED CARD OF 'conclavetop.TopTold'. -/
def topToldCard : Claim7 := { stood := { row := topToldRow, standIns := [], harness := (true, "6772d825a89b5af04b9a144518b7eeea55fd9a27a18b2a78ca832ea1aa8c84e9"), looks := false }, kinds := [], alts := [], laidByText := true, laidKinds := [.data, .data], laidTests := true, laidLooks := .later }
def TopToldCardSaid : Prop := Claim7.holds Tryz.pinned (.plain (OpenSpec.ofChange topToldSpec)) topToldCard

/-- THE SECOND FORM's CARD OF 'conclavetop.TopSettled'. -/
def topSettledUptoCard : Claim7 := { stood := { row := topSettledUptoRow, standIns := [], harness := (true, "6772d825a89b5af04b9a144518b7eeea55fd9a27a18b2a78ca832ea1aa8c84e9"), looks := false }, kinds := [], alts := [], laidByText := true, laidKinds := [.data, .data], laidTests := true, laidLooks := .later }
def TopSettledUptoCardSaid : Prop := Claim7.holds Tryz.pinned (.plain (OpenSpec.upto topSettledSpec)) topSettledUptoCard

/-- THE SECOND FORM's CARD OF 'conclavetop.TopServed'. -/
def topServedUptoCard : Claim7 := { stood := { row := topServedUptoRow, standIns := [], harness := (true, "6772d825a89b5af04b9a144518b7eeea55fd9a27a18b2a78ca832ea1aa8c84e9"), looks := false }, kinds := [], alts := [], laidByText := true, laidKinds := [.data, .data], laidTests := true, laidLooks := .later }
def TopServedUptoCardSaid : Prop := Claim7.holds Tryz.pinned (.plain (OpenSpec.upto topServedSpec)) topServedUptoCard

/-- THE SECOND FORM's CARD OF 'conclavetop.TopTold'. -/
def topToldUptoCard : Claim7 := { stood := { row := topToldUptoRow, standIns := [], harness := (true, "6772d825a89b5af04b9a144518b7eeea55fd9a27a18b2a78ca832ea1aa8c84e9"), looks := false }, kinds := [], alts := [], laidByText := true, laidKinds := [.data, .data], laidTests := true, laidLooks := .later }
def TopToldUptoCardSaid : Prop := Claim7.holds Tryz.pinned (.plain (OpenSpec.upto topToldSpec)) topToldUptoCard
end Rows
end Go.Proofs.YtkhkmpfenaipaaaGreatDoor
