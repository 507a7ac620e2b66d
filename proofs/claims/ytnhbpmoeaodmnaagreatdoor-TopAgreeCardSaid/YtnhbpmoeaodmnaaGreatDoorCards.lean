/-
  DERIVED. GIVEN WITH THE SEED: THE CARDS: each row of YtnhbpmoeaodmnaaGreatDoorRows.lean that lists a variable, with what it lists TIED to the program's text (the seventh form; the later family's looks); each row that meets fmt, with fmt's text TOLD by the authors' own Lean function (tested against real Go, not proved from fmt's source: count such statements apart). THE CARD IS WHAT COUNTS. Prove the row's statement (the work); the ties are given (YtnhbpmoeaodmnaaGreatDoorTie.lean); close each card by the builder's one call (the guide's Derived/Test/ToyasCard.lean, 'card_holds'). Laid BY PROGRAM, IN A SANDBOX (cutbox-door.mjs). By AI agents, Wed Nov 11 2026. No macro, syntax, notation, axiom, sorry.
-/
import Derived.Test.YtnhbpmoeaodmnaaGreatDoorRows
import GoSem.ClaimSeven
namespace Go.Proofs.YtnhbpmoeaodmnaaGreatDoor
namespace Rows

/-- THE TIED CARD OF 'conclavelaw.MootRefuses'. -/
def mootRefusesCard : Claim7 := { stood := { row := mootRefusesRow, standIns := [], harness := (true, "4af1b21c611479d5810fd43af40b72e95e019206d6186bb1b097ff49893000bb"), looks := false }, kinds := [], alts := [], laidByText := true, laidKinds := [.data, .data], laidTests := true, laidLooks := .later }
def MootRefusesCardSaid : Prop := Claim7.holds Tryz.pinned (.plain (OpenSpec.ofChange mootRefusesSpec)) mootRefusesCard

/-- THE TIED CARD OF 'conclavetop.TopAgree'. -/
def topAgreeCard : Claim7 := { stood := { row := topAgreeRow, standIns := [], harness := (true, "4af1b21c611479d5810fd43af40b72e95e019206d6186bb1b097ff49893000bb"), looks := false }, kinds := [], alts := [], laidByText := true, laidKinds := [.data, .data], laidTests := true, laidLooks := .later }
def TopAgreeCardSaid : Prop := Claim7.holds Tryz.pinned (.plain (OpenSpec.ofChange topAgreeSpec)) topAgreeCard

/-- THE SECOND FORM's CARD OF 'conclavelaw.MootRefuses'. -/
def mootRefusesUptoCard : Claim7 := { stood := { row := mootRefusesUptoRow, standIns := [], harness := (true, "4af1b21c611479d5810fd43af40b72e95e019206d6186bb1b097ff49893000bb"), looks := false }, kinds := [], alts := [], laidByText := true, laidKinds := [.data, .data], laidTests := true, laidLooks := .later }
def MootRefusesUptoCardSaid : Prop := Claim7.holds Tryz.pinned (.plain (OpenSpec.upto mootRefusesSpec)) mootRefusesUptoCard

/-- THE SECOND FORM's CARD OF 'conclavetop.TopAgree'. -/
def topAgreeUptoCard : Claim7 := { stood := { row := topAgreeUptoRow, standIns := [], harness := (true, "4af1b21c611479d5810fd43af40b72e95e019206d6186bb1b097ff49893000bb"), looks := false }, kinds := [], alts := [], laidByText := true, laidKinds := [.data, .data], laidTests := true, laidLooks := .later }
def TopAgreeUptoCardSaid : Prop := Claim7.holds Tryz.pinned (.plain (OpenSpec.upto topAgreeSpec)) topAgreeUptoCard
end Rows
end Go.Proofs.YtnhbpmoeaodmnaaGreatDoor
