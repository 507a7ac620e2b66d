/-
  DERIVED. GIVEN WITH THE SEED: THE CARDS: each row of YtnhfdnlcpdbjlaaGreatDoorRows.lean that lists a variable, with what it lists TIED to the program's text (the seventh form; the later family's looks); each row that meets fmt, with fmt's text TOLD by the authors' own Lean function (tested against real Go, not proved from fmt's source: count such statements apart). THE CARD IS WHAT COUNTS. Prove the row's statement (the work); the ties are given (YtnhfdnlcpdbjlaaGreatDoorTie.lean); close each card by the builder's one call (the guide's Derived/Test/ToyasCard.lean, 'card_holds'). Laid BY PROGRAM, IN A SANDBOX (cutbox-door.mjs). By AI agents, Wed Nov 11 2026. No macro, syntax, notation, axiom, sorry.
-/
import Derived.Test.YtnhfdnlcpdbjlaaGreatDoorRows
import GoSem.ClaimSeven
namespace Go.Proofs.YtnhfdnlcpdbjlaaGreatDoor
namespace Rows

/-- THE TIED CARD OF 'conclavetop.TopCrash'. -/
def topCrashCard : Claim7 := { stood := { row := topCrashRow, standIns := [], harness := (true, "9488ed2942618e4e95897f2edbc5057856f042aeceb49e86ffa12de2c091b226"), looks := false }, kinds := [], alts := [], laidByText := true, laidKinds := [.data, .data], laidTests := true, laidLooks := .later }
def TopCrashCardSaid : Prop := Claim7.holds Tryz.pinned (.plain (OpenSpec.ofChange topCrashSpec)) topCrashCard

/-- THE SECOND FORM's CARD OF 'conclavetop.TopCrash'. -/
def topCrashUptoCard : Claim7 := { stood := { row := topCrashUptoRow, standIns := [], harness := (true, "9488ed2942618e4e95897f2edbc5057856f042aeceb49e86ffa12de2c091b226"), looks := false }, kinds := [], alts := [], laidByText := true, laidKinds := [.data, .data], laidTests := true, laidLooks := .later }
def TopCrashUptoCardSaid : Prop := Claim7.holds Tryz.pinned (.plain (OpenSpec.upto topCrashSpec)) topCrashUptoCard
end Rows
end Go.Proofs.YtnhfdnlcpdbjlaaGreatDoor
