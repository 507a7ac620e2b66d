/-
  DERIVED. GIVEN WITH THE SEED: THE CARDS: each row of YtboeoomhjbcecaaGreatDoorRows.lean that lists a variable, with what it lists TIED to the program's text (the seventh form; the later family's looks); each row that meets fmt, with fmt's text TOLD by the authors' own Lean function (tested against real Go, not proved from fmt's source: count such statements apart). THE CARD IS WHAT COUNTS. Prove the row's statement (the work); the ties are given (YtboeoomhjbcecaaGreatDoorTie.lean); close each card by the builder's one call (the guide's Derived/Test/ToyasCard.lean, 'card_holds'). Laid BY PROGRAM, IN A SANDBOX (cutbox-door.mjs). By AI agents, Wed Nov 11 2026. No macro, syntax, notation, axiom, sorry.
-/
import Derived.Test.YtboeoomhjbcecaaGreatDoorRows
import GoSem.ClaimSeven
namespace Go.Proofs.YtboeoomhjbcecaaGreatDoor
namespace Rows

/-- THE TIED CARD OF 'conclavetop.TopChains'. -/
def topChainsCard : Claim7 := { stood := { row := topChainsRow, standIns := [], harness := (true, "65f604e40c7f3de4488a9869c775cc7c1dc6c63253f1ce976680df7011a65778"), looks := false }, kinds := [], alts := [], laidByText := true, laidKinds := [.data, .data], laidTests := true, laidLooks := .later }
def TopChainsCardSaid : Prop := Claim7.holds Tryz.pinned (.plain (OpenSpec.ofChange topChainsSpec)) topChainsCard

/-- THE TIED CARD OF 'conclavetop.TopReads'. -/
def topReadsCard : Claim7 := { stood := { row := topReadsRow, standIns := [], harness := (true, "65f604e40c7f3de4488a9869c775cc7c1dc6c63253f1ce976680df7011a65778"), looks := false }, kinds := [], alts := [], laidByText := true, laidKinds := [.data, .data], laidTests := true, laidLooks := .later }
def TopReadsCardSaid : Prop := Claim7.holds Tryz.pinned (.plain (OpenSpec.ofChange topReadsSpec)) topReadsCard

/-- THE SECOND FORM's CARD OF 'conclavetop.TopChains'. -/
def topChainsUptoCard : Claim7 := { stood := { row := topChainsUptoRow, standIns := [], harness := (true, "65f604e40c7f3de4488a9869c775cc7c1dc6c63253f1ce976680df7011a65778"), looks := false }, kinds := [], alts := [], laidByText := true, laidKinds := [.data, .data], laidTests := true, laidLooks := .later }
def TopChainsUptoCardSaid : Prop := Claim7.holds Tryz.pinned (.plain (OpenSpec.upto topChainsSpec)) topChainsUptoCard

/-- THE SECOND FORM's CARD OF 'conclavetop.TopReads'. -/
def topReadsUptoCard : Claim7 := { stood := { row := topReadsUptoRow, standIns := [], harness := (true, "65f604e40c7f3de4488a9869c775cc7c1dc6c63253f1ce976680df7011a65778"), looks := false }, kinds := [], alts := [], laidByText := true, laidKinds := [.data, .data], laidTests := true, laidLooks := .later }
def TopReadsUptoCardSaid : Prop := Claim7.holds Tryz.pinned (.plain (OpenSpec.upto topReadsSpec)) topReadsUptoCard
end Rows
end Go.Proofs.YtboeoomhjbcecaaGreatDoor
