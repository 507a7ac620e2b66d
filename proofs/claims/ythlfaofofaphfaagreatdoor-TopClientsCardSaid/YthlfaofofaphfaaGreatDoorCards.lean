/-
  DERIVED. GIVEN WITH THE SEED: THE CARDS: each row of YthlfaofofaphfaaGreatDoorRows.lean that lists a variable, with what it lists TIED to the program's text (the seventh form; the later family's looks); each row that meets fmt, with fmt's text TOLD by the authors' own Lean function (tested against real Go, not proved from fmt's source: count such statements apart). THE CARD IS WHAT COUNTS. Prove the row's statement (the work); the ties are given (YthlfaofofaphfaaGreatDoorTie.lean); close each card by the builder's one call (the guide's Derived/Test/ToyasCard.lean, 'card_holds'). Laid BY PROGRAM, IN A SANDBOX (cutbox-door.mjs). By AI agents, Wed Nov 11 2026. No macro, syntax, notation, axiom, sorry.
-/
import Derived.Test.YthlfaofofaphfaaGreatDoorRows
import GoSem.ClaimSeven
namespace Go.Proofs.YthlfaofofaphfaaGreatDoor
namespace Rows

/-- THE TIED CARD OF 'conclavetop.TopOnce'. -/
def topOnceCard : Claim7 := { stood := { row := topOnceRow, standIns := [], harness := (true, "6feceeae59b555b939deca39a7dd3e219433c57c5f20416fa5db35c1f4c164f5"), looks := false }, kinds := [], alts := [], laidByText := true, laidKinds := [.data, .data], laidTests := true, laidLooks := .later }
def TopOnceCardSaid : Prop := Claim7.holds Tryz.pinned (.plain (OpenSpec.ofChange topOnceSpec)) topOnceCard

/-- THE TIED CARD OF 'conclavetop.TopClients'. -/
def topClientsCard : Claim7 := { stood := { row := topClientsRow, standIns := [], harness := (true, "6feceeae59b555b939deca39a7dd3e219433c57c5f20416fa5db35c1f4c164f5"), looks := false }, kinds := [], alts := [], laidByText := true, laidKinds := [.data, .data], laidTests := true, laidLooks := .later }
def TopClientsCardSaid : Prop := Claim7.holds Tryz.pinned (.plain (OpenSpec.ofChange topClientsSpec)) topClientsCard

/-- THE SECOND FORM's CARD OF 'conclavetop.TopOnce'. -/
def topOnceUptoCard : Claim7 := { stood := { row := topOnceUptoRow, standIns := [], harness := (true, "6feceeae59b555b939deca39a7dd3e219433c57c5f20416fa5db35c1f4c164f5"), looks := false }, kinds := [], alts := [], laidByText := true, laidKinds := [.data, .data], laidTests := true, laidLooks := .later }
def TopOnceUptoCardSaid : Prop := Claim7.holds Tryz.pinned (.plain (OpenSpec.upto topOnceSpec)) topOnceUptoCard

/-- THE SECOND FORM's CARD OF 'conclavetop.TopClients'. -/
def topClientsUptoCard : Claim7 := { stood := { row := topClientsUptoRow, standIns := [], harness := (true, "6feceeae59b555b939deca39a7dd3e219433c57c5f20416fa5db35c1f4c164f5"), looks := false }, kinds := [], alts := [], laidByText := true, laidKinds := [.data, .data], laidTests := true, laidLooks := .later }
def TopClientsUptoCardSaid : Prop := Claim7.holds Tryz.pinned (.plain (OpenSpec.upto topClientsSpec)) topClientsUptoCard
end Rows
end Go.Proofs.YthlfaofofaphfaaGreatDoor
