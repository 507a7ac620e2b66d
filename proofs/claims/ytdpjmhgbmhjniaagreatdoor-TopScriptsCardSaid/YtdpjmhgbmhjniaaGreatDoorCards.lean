/-
  DERIVED. GIVEN WITH THE SEED: THE CARDS: each row of YtdpjmhgbmhjniaaGreatDoorRows.lean that lists a variable, with what it lists TIED to the program's text (the seventh form; the later family's looks); each row that meets fmt, with fmt's text TOLD by the authors' own Lean function (tested against real Go, not proved from fmt's source: count such statements apart). THE CARD IS WHAT COUNTS. Prove the row's statement (the work); the ties are given (YtdpjmhgbmhjniaaGreatDoorTie.lean); close each card by the builder's one call (the guide's Derived/Test/ToyasCard.lean, 'card_holds'). Laid BY PROGRAM, IN A SANDBOX (cutbox-door.mjs). By AI agents, Wed Nov 11 2026. No macro, syntax, notation, axiom, sorry.
-/
import Derived.Test.YtdpjmhgbmhjniaaGreatDoorRows
import GoSem.ClaimSeven
namespace Go.Proofs.YtdpjmhgbmhjniaaGreatDoor
namespace Rows

/-- THE TIED CARD OF 'conclavetop.TopSettled'. -/
def topSettledCard : Claim7 := { stood := { row := topSettledRow, standIns := [], harness := (true, "bf5c9554ce5cc98ac7e3c378f191a957954ace04731668c3a3b5f3c34c7dcd83"), looks := true }, kinds := [], alts := [], laidByText := true, laidKinds := [.data, .data], laidTests := true, laidLooks := .later }
def TopSettledCardSaid : Prop := Claim7.holds Tryz.pinned (.plain (OpenSpec.ofChange topSettledSpec)) topSettledCard

/-- THE TIED CARD OF 'conclavetop.TopServed'. -/
def topServedCard : Claim7 := { stood := { row := topServedRow, standIns := [], harness := (true, "bf5c9554ce5cc98ac7e3c378f191a957954ace04731668c3a3b5f3c34c7dcd83"), looks := true }, kinds := [], alts := [], laidByText := true, laidKinds := [.data, .data], laidTests := true, laidLooks := .later }
def TopServedCardSaid : Prop := Claim7.holds Tryz.pinned (.plain (OpenSpec.ofChange topServedSpec)) topServedCard

/-- THE TIED CARD OF 'conclavetop.TopCrash'. -/
def topCrashCard : Claim7 := { stood := { row := topCrashRow, standIns := [], harness := (true, "bf5c9554ce5cc98ac7e3c378f191a957954ace04731668c3a3b5f3c34c7dcd83"), looks := true }, kinds := [], alts := [], laidByText := true, laidKinds := [.data, .data], laidTests := true, laidLooks := .later }
def TopCrashCardSaid : Prop := Claim7.holds Tryz.pinned (.plain (OpenSpec.ofChange topCrashSpec)) topCrashCard

/-- THE TIED CARD OF 'conclavetop.TopTold'. -/
def topToldCard : Claim7 := { stood := { row := topToldRow, standIns := [], harness := (true, "bf5c9554ce5cc98ac7e3c378f191a957954ace04731668c3a3b5f3c34c7dcd83"), looks := true }, kinds := [], alts := [], laidByText := true, laidKinds := [.data, .data], laidTests := true, laidLooks := .later }
def TopToldCardSaid : Prop := Claim7.holds Tryz.pinned (.plain (OpenSpec.ofChange topToldSpec)) topToldCard

/-- THE TIED CARD OF 'conclavetop.TopScripts'. -/
def topScriptsCard : Claim7 := { stood := { row := topScriptsRow, standIns := [], harness := (true, "bf5c9554ce5cc98ac7e3c378f191a957954ace04731668c3a3b5f3c34c7dcd83"), looks := true }, kinds := [], alts := [], laidByText := true, laidKinds := [.data, .data, .data, .data, .sentinel, .sentinel, .data, .data, .data, .pinned], laidTests := true, laidLooks := .later }
def TopScriptsCardSaid : Prop := Claim7.holds Tryz.pinned (.plain (OpenSpec.ofChange topScriptsSpec)) topScriptsCard

/-- THE SECOND FORM's CARD OF 'conclavetop.TopSettled'. -/
def topSettledUptoCard : Claim7 := { stood := { row := topSettledUptoRow, standIns := [], harness := (true, "bf5c9554ce5cc98ac7e3c378f191a957954ace04731668c3a3b5f3c34c7dcd83"), looks := true }, kinds := [], alts := [], laidByText := true, laidKinds := [.data, .data], laidTests := true, laidLooks := .later }
def TopSettledUptoCardSaid : Prop := Claim7.holds Tryz.pinned (.plain (OpenSpec.upto topSettledSpec)) topSettledUptoCard

/-- THE SECOND FORM's CARD OF 'conclavetop.TopServed'. -/
def topServedUptoCard : Claim7 := { stood := { row := topServedUptoRow, standIns := [], harness := (true, "bf5c9554ce5cc98ac7e3c378f191a957954ace04731668c3a3b5f3c34c7dcd83"), looks := true }, kinds := [], alts := [], laidByText := true, laidKinds := [.data, .data], laidTests := true, laidLooks := .later }
def TopServedUptoCardSaid : Prop := Claim7.holds Tryz.pinned (.plain (OpenSpec.upto topServedSpec)) topServedUptoCard

/-- THE SECOND FORM's CARD OF 'conclavetop.TopCrash'. -/
def topCrashUptoCard : Claim7 := { stood := { row := topCrashUptoRow, standIns := [], harness := (true, "bf5c9554ce5cc98ac7e3c378f191a957954ace04731668c3a3b5f3c34c7dcd83"), looks := true }, kinds := [], alts := [], laidByText := true, laidKinds := [.data, .data], laidTests := true, laidLooks := .later }
def TopCrashUptoCardSaid : Prop := Claim7.holds Tryz.pinned (.plain (OpenSpec.upto topCrashSpec)) topCrashUptoCard

/-- THE SECOND FORM's CARD OF 'conclavetop.TopTold'. -/
def topToldUptoCard : Claim7 := { stood := { row := topToldUptoRow, standIns := [], harness := (true, "bf5c9554ce5cc98ac7e3c378f191a957954ace04731668c3a3b5f3c34c7dcd83"), looks := true }, kinds := [], alts := [], laidByText := true, laidKinds := [.data, .data], laidTests := true, laidLooks := .later }
def TopToldUptoCardSaid : Prop := Claim7.holds Tryz.pinned (.plain (OpenSpec.upto topToldSpec)) topToldUptoCard

/-- THE SECOND FORM's CARD OF 'conclavetop.TopScripts'. -/
def topScriptsUptoCard : Claim7 := { stood := { row := topScriptsUptoRow, standIns := [], harness := (true, "bf5c9554ce5cc98ac7e3c378f191a957954ace04731668c3a3b5f3c34c7dcd83"), looks := true }, kinds := [], alts := [], laidByText := true, laidKinds := [.data, .data, .data, .data, .sentinel, .sentinel, .data, .data, .data, .pinned], laidTests := true, laidLooks := .later }
def TopScriptsUptoCardSaid : Prop := Claim7.holds Tryz.pinned (.plain (OpenSpec.upto topScriptsSpec)) topScriptsUptoCard
end Rows
end Go.Proofs.YtdpjmhgbmhjniaaGreatDoor
