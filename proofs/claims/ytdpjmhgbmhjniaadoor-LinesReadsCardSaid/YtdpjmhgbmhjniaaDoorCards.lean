/-
  DERIVED. GIVEN WITH THE SEED: THE CARDS: each row of YtdpjmhgbmhjniaaDoorRows.lean that lists a variable, with what it lists TIED to the program's text (the seventh form; the later family's looks); each row that meets fmt, with fmt's text TOLD by the authors' own Lean function (tested against real Go, not proved from fmt's source: count such statements apart). THE CARD IS WHAT COUNTS. Prove the row's statement (the work); the ties are given (YtdpjmhgbmhjniaaDoorTie.lean); close each card by the builder's one call (the guide's Derived/Test/ToyasCard.lean, 'card_holds'). Laid BY PROGRAM, IN A SANDBOX (cutbox-door.mjs). By AI agents, Wed Nov 11 2026. No macro, syntax, notation, axiom, sorry.
-/
import Derived.Test.YtdpjmhgbmhjniaaDoorRows
import GoSem.ClaimSeven
namespace Go.Proofs.YtdpjmhgbmhjniaaDoor
namespace Rows

/-- THE TIED CARD OF 'conclavelaw.LinesReads'. -/
def linesReadsCard : Claim7 := { stood := { row := linesReadsRow, standIns := [], harness := (true, "9197a421241bc541238592209943a3485cb05396e33e5240752f5a95c74b33af"), looks := true }, kinds := [], alts := [], laidByText := true, laidKinds := [.data, .data, .data, .data, .sentinel, .sentinel, .data, .pinned], laidTests := true, laidLooks := .later }
def LinesReadsCardSaid : Prop := Claim7.holds Tryd.pinned (.plain (OpenSpec.ofChange linesReadsSpec)) linesReadsCard

/-- THE SECOND FORM's CARD OF 'conclavelaw.LinesReads'. -/
def linesReadsUptoCard : Claim7 := { stood := { row := linesReadsUptoRow, standIns := [], harness := (true, "9197a421241bc541238592209943a3485cb05396e33e5240752f5a95c74b33af"), looks := true }, kinds := [], alts := [], laidByText := true, laidKinds := [.data, .data, .data, .data, .sentinel, .sentinel, .data, .pinned], laidTests := true, laidLooks := .later }
def LinesReadsUptoCardSaid : Prop := Claim7.holds Tryd.pinned (.plain (OpenSpec.upto linesReadsSpec)) linesReadsUptoCard
end Rows
end Go.Proofs.YtdpjmhgbmhjniaaDoor
