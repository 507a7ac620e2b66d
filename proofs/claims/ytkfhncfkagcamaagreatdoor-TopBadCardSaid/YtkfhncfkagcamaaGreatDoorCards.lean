/-
  DERIVED. GIVEN WITH THE SEED: THE CARDS: each row of YtkfhncfkagcamaaGreatDoorRows.lean that lists a variable, with what it lists TIED to the program's text (the seventh form; the later family's looks); each row that meets fmt, with fmt's text TOLD by the authors' own Lean function (tested against real Go, not proved from fmt's source: count such statements apart). THE CARD IS WHAT COUNTS. Prove the row's statement (the work); the ties are given (YtkfhncfkagcamaaGreatDoorTie.lean); close each card by the builder's one call (the guide's Derived/Test/ToyasCard.lean, 'card_holds'). Laid BY PROGRAM, IN A SANDBOX (cutbox-door.mjs). By AI agents, Wed Nov 11 2026. No macro, syntax, notation, axiom, sorry.
-/
import Derived.Test.YtkfhncfkagcamaaGreatDoorRows
import GoSem.ClaimSeven
namespace Go.Proofs.YtkfhncfkagcamaaGreatDoor
namespace Rows

/-- THE TIED CARD OF 'conclavetop.TopGrows'. -/
def topGrowsCard : Claim7 := { stood := { row := topGrowsRow, standIns := [], harness := (true, "182115534deedbbff28035818f7f184f0e1b2fd8e46ace3a3765652a64fda13f"), looks := false }, kinds := [], alts := [], laidByText := true, laidKinds := [.data, .data], laidTests := true, laidLooks := .later }
def TopGrowsCardSaid : Prop := Claim7.holds Tryz.pinned (.plain (OpenSpec.ofChange topGrowsSpec)) topGrowsCard

/-- THE TIED CARD OF 'conclavetop.TopForged'. -/
def topForgedCard : Claim7 := { stood := { row := topForgedRow, standIns := [], harness := (true, "182115534deedbbff28035818f7f184f0e1b2fd8e46ace3a3765652a64fda13f"), looks := false }, kinds := [], alts := [], laidByText := true, laidKinds := [.data, .data], laidTests := true, laidLooks := .later }
def TopForgedCardSaid : Prop := Claim7.holds Tryz.pinned (.plain (OpenSpec.ofChange topForgedSpec)) topForgedCard

/-- THE TIED CARD OF 'conclavetop.TopLeaderless'. -/
def topLeaderlessCard : Claim7 := { stood := { row := topLeaderlessRow, standIns := [], harness := (true, "182115534deedbbff28035818f7f184f0e1b2fd8e46ace3a3765652a64fda13f"), looks := false }, kinds := [], alts := [], laidByText := true, laidKinds := [.data, .data], laidTests := true, laidLooks := .later }
def TopLeaderlessCardSaid : Prop := Claim7.holds Tryz.pinned (.plain (OpenSpec.ofChange topLeaderlessSpec)) topLeaderlessCard

/-- THE TIED CARD OF 'conclavetop.TopBad'. -/
def topBadCard : Claim7 := { stood := { row := topBadRow, standIns := [], harness := (true, "182115534deedbbff28035818f7f184f0e1b2fd8e46ace3a3765652a64fda13f"), looks := false }, kinds := [], alts := [], laidByText := true, laidKinds := [.data, .data], laidTests := true, laidLooks := .later }
def TopBadCardSaid : Prop := Claim7.holds Tryz.pinned (.plain (OpenSpec.ofChange topBadSpec)) topBadCard

/-- THE TIED CARD OF 'conclavetop.TopChains'. -/
def topChainsCard : Claim7 := { stood := { row := topChainsRow, standIns := [], harness := (true, "182115534deedbbff28035818f7f184f0e1b2fd8e46ace3a3765652a64fda13f"), looks := false }, kinds := [], alts := [], laidByText := true, laidKinds := [.data, .data], laidTests := true, laidLooks := .later }
def TopChainsCardSaid : Prop := Claim7.holds Tryz.pinned (.plain (OpenSpec.ofChange topChainsSpec)) topChainsCard

/-- THE TIED CARD OF 'conclavetop.TopReads'. -/
def topReadsCard : Claim7 := { stood := { row := topReadsRow, standIns := [], harness := (true, "182115534deedbbff28035818f7f184f0e1b2fd8e46ace3a3765652a64fda13f"), looks := false }, kinds := [], alts := [], laidByText := true, laidKinds := [.data, .data], laidTests := true, laidLooks := .later }
def TopReadsCardSaid : Prop := Claim7.holds Tryz.pinned (.plain (OpenSpec.ofChange topReadsSpec)) topReadsCard

/-- THE TIED CARD OF 'conclavetop.TopSettled'. -/
def topSettledCard : Claim7 := { stood := { row := topSettledRow, standIns := [], harness := (true, "182115534deedbbff28035818f7f184f0e1b2fd8e46ace3a3765652a64fda13f"), looks := false }, kinds := [], alts := [], laidByText := true, laidKinds := [.data, .data], laidTests := true, laidLooks := .later }
def TopSettledCardSaid : Prop := Claim7.holds Tryz.pinned (.plain (OpenSpec.ofChange topSettledSpec)) topSettledCard

/-- THE TIED CARD OF 'conclavetop.TopServed'. -/
def topServedCard : Claim7 := { stood := { row := topServedRow, standIns := [], harness := (true, "182115534deedbbff28035818f7f184f0e1b2fd8e46ace3a3765652a64fda13f"), looks := false }, kinds := [], alts := [], laidByText := true, laidKinds := [.data, .data], laidTests := true, laidLooks := .later }
def TopServedCardSaid : Prop := Claim7.holds Tryz.pinned (.plain (OpenSpec.ofChange topServedSpec)) topServedCard

/-- THE TIED CARD OF 'conclavetop.TopTold'. -/
def topToldCard : Claim7 := { stood := { row := topToldRow, standIns := [], harness := (true, "182115534deedbbff28035818f7f184f0e1b2fd8e46ace3a3765652a64fda13f"), looks := false }, kinds := [], alts := [], laidByText := true, laidKinds := [.data, .data], laidTests := true, laidLooks := .later }
def TopToldCardSaid : Prop := Claim7.holds Tryz.pinned (.plain (OpenSpec.ofChange topToldSpec)) topToldCard

/-- THE TIED CARD OF 'conclavetop.TopCrash'. -/
def topCrashCard : Claim7 := { stood := { row := topCrashRow, standIns := [], harness := (true, "182115534deedbbff28035818f7f184f0e1b2fd8e46ace3a3765652a64fda13f"), looks := false }, kinds := [], alts := [], laidByText := true, laidKinds := [.data, .data], laidTests := true, laidLooks := .later }
def TopCrashCardSaid : Prop := Claim7.holds Tryz.pinned (.plain (OpenSpec.ofChange topCrashSpec)) topCrashCard

/-- THE TIED CARD OF 'conclavetop.TopOnce'. -/
def topOnceCard : Claim7 := { stood := { row := topOnceRow, standIns := [], harness := (true, "182115534deedbbff28035818f7f184f0e1b2fd8e46ace3a3765652a64fda13f"), looks := false }, kinds := [], alts := [], laidByText := true, laidKinds := [.data, .data], laidTests := true, laidLooks := .later }
def TopOnceCardSaid : Prop := Claim7.holds Tryz.pinned (.plain (OpenSpec.ofChange topOnceSpec)) topOnceCard

/-- THE TIED CARD OF 'conclavetop.TopClients'. -/
def topClientsCard : Claim7 := { stood := { row := topClientsRow, standIns := [], harness := (true, "182115534deedbbff28035818f7f184f0e1b2fd8e46ace3a3765652a64fda13f"), looks := false }, kinds := [], alts := [], laidByText := true, laidKinds := [.data, .data], laidTests := true, laidLooks := .later }
def TopClientsCardSaid : Prop := Claim7.holds Tryz.pinned (.plain (OpenSpec.ofChange topClientsSpec)) topClientsCard

/-- THE TIED CARD OF 'conclavetop.TopRevoked'. -/
def topRevokedCard : Claim7 := { stood := { row := topRevokedRow, standIns := [], harness := (true, "182115534deedbbff28035818f7f184f0e1b2fd8e46ace3a3765652a64fda13f"), looks := false }, kinds := [], alts := [], laidByText := true, laidKinds := [.data, .data], laidTests := true, laidLooks := .later }
def TopRevokedCardSaid : Prop := Claim7.holds Tryz.pinned (.plain (OpenSpec.ofChange topRevokedSpec)) topRevokedCard

/-- THE SECOND FORM's CARD OF 'conclavetop.TopGrows'. -/
def topGrowsUptoCard : Claim7 := { stood := { row := topGrowsUptoRow, standIns := [], harness := (true, "182115534deedbbff28035818f7f184f0e1b2fd8e46ace3a3765652a64fda13f"), looks := false }, kinds := [], alts := [], laidByText := true, laidKinds := [.data, .data], laidTests := true, laidLooks := .later }
def TopGrowsUptoCardSaid : Prop := Claim7.holds Tryz.pinned (.plain (OpenSpec.upto topGrowsSpec)) topGrowsUptoCard

/-- THE SECOND FORM's CARD OF 'conclavetop.TopForged'. -/
def topForgedUptoCard : Claim7 := { stood := { row := topForgedUptoRow, standIns := [], harness := (true, "182115534deedbbff28035818f7f184f0e1b2fd8e46ace3a3765652a64fda13f"), looks := false }, kinds := [], alts := [], laidByText := true, laidKinds := [.data, .data], laidTests := true, laidLooks := .later }
def TopForgedUptoCardSaid : Prop := Claim7.holds Tryz.pinned (.plain (OpenSpec.upto topForgedSpec)) topForgedUptoCard

/-- THE SECOND FORM's CARD OF 'conclavetop.TopLeaderless'. -/
def topLeaderlessUptoCard : Claim7 := { stood := { row := topLeaderlessUptoRow, standIns := [], harness := (true, "182115534deedbbff28035818f7f184f0e1b2fd8e46ace3a3765652a64fda13f"), looks := false }, kinds := [], alts := [], laidByText := true, laidKinds := [.data, .data], laidTests := true, laidLooks := .later }
def TopLeaderlessUptoCardSaid : Prop := Claim7.holds Tryz.pinned (.plain (OpenSpec.upto topLeaderlessSpec)) topLeaderlessUptoCard

/-- THE SECOND FORM's CARD OF 'conclavetop.TopBad'. -/
def topBadUptoCard : Claim7 := { stood := { row := topBadUptoRow, standIns := [], harness := (true, "182115534deedbbff28035818f7f184f0e1b2fd8e46ace3a3765652a64fda13f"), looks := false }, kinds := [], alts := [], laidByText := true, laidKinds := [.data, .data], laidTests := true, laidLooks := .later }
def TopBadUptoCardSaid : Prop := Claim7.holds Tryz.pinned (.plain (OpenSpec.upto topBadSpec)) topBadUptoCard

/-- THE SECOND FORM's CARD OF 'conclavetop.TopChains'. -/
def topChainsUptoCard : Claim7 := { stood := { row := topChainsUptoRow, standIns := [], harness := (true, "182115534deedbbff28035818f7f184f0e1b2fd8e46ace3a3765652a64fda13f"), looks := false }, kinds := [], alts := [], laidByText := true, laidKinds := [.data, .data], laidTests := true, laidLooks := .later }
def TopChainsUptoCardSaid : Prop := Claim7.holds Tryz.pinned (.plain (OpenSpec.upto topChainsSpec)) topChainsUptoCard

/-- THE SECOND FORM's CARD OF 'conclavetop.TopReads'. -/
def topReadsUptoCard : Claim7 := { stood := { row := topReadsUptoRow, standIns := [], harness := (true, "182115534deedbbff28035818f7f184f0e1b2fd8e46ace3a3765652a64fda13f"), looks := false }, kinds := [], alts := [], laidByText := true, laidKinds := [.data, .data], laidTests := true, laidLooks := .later }
def TopReadsUptoCardSaid : Prop := Claim7.holds Tryz.pinned (.plain (OpenSpec.upto topReadsSpec)) topReadsUptoCard

/-- THE SECOND FORM's CARD OF 'conclavetop.TopSettled'. -/
def topSettledUptoCard : Claim7 := { stood := { row := topSettledUptoRow, standIns := [], harness := (true, "182115534deedbbff28035818f7f184f0e1b2fd8e46ace3a3765652a64fda13f"), looks := false }, kinds := [], alts := [], laidByText := true, laidKinds := [.data, .data], laidTests := true, laidLooks := .later }
def TopSettledUptoCardSaid : Prop := Claim7.holds Tryz.pinned (.plain (OpenSpec.upto topSettledSpec)) topSettledUptoCard

/-- THE SECOND FORM's CARD OF 'conclavetop.TopServed'. -/
def topServedUptoCard : Claim7 := { stood := { row := topServedUptoRow, standIns := [], harness := (true, "182115534deedbbff28035818f7f184f0e1b2fd8e46ace3a3765652a64fda13f"), looks := false }, kinds := [], alts := [], laidByText := true, laidKinds := [.data, .data], laidTests := true, laidLooks := .later }
def TopServedUptoCardSaid : Prop := Claim7.holds Tryz.pinned (.plain (OpenSpec.upto topServedSpec)) topServedUptoCard

/-- THE SECOND FORM's CARD OF 'conclavetop.TopTold'. -/
def topToldUptoCard : Claim7 := { stood := { row := topToldUptoRow, standIns := [], harness := (true, "182115534deedbbff28035818f7f184f0e1b2fd8e46ace3a3765652a64fda13f"), looks := false }, kinds := [], alts := [], laidByText := true, laidKinds := [.data, .data], laidTests := true, laidLooks := .later }
def TopToldUptoCardSaid : Prop := Claim7.holds Tryz.pinned (.plain (OpenSpec.upto topToldSpec)) topToldUptoCard

/-- THE SECOND FORM's CARD OF 'conclavetop.TopCrash'. -/
def topCrashUptoCard : Claim7 := { stood := { row := topCrashUptoRow, standIns := [], harness := (true, "182115534deedbbff28035818f7f184f0e1b2fd8e46ace3a3765652a64fda13f"), looks := false }, kinds := [], alts := [], laidByText := true, laidKinds := [.data, .data], laidTests := true, laidLooks := .later }
def TopCrashUptoCardSaid : Prop := Claim7.holds Tryz.pinned (.plain (OpenSpec.upto topCrashSpec)) topCrashUptoCard

/-- THE SECOND FORM's CARD OF 'conclavetop.TopOnce'. -/
def topOnceUptoCard : Claim7 := { stood := { row := topOnceUptoRow, standIns := [], harness := (true, "182115534deedbbff28035818f7f184f0e1b2fd8e46ace3a3765652a64fda13f"), looks := false }, kinds := [], alts := [], laidByText := true, laidKinds := [.data, .data], laidTests := true, laidLooks := .later }
def TopOnceUptoCardSaid : Prop := Claim7.holds Tryz.pinned (.plain (OpenSpec.upto topOnceSpec)) topOnceUptoCard

/-- THE SECOND FORM's CARD OF 'conclavetop.TopClients'. -/
def topClientsUptoCard : Claim7 := { stood := { row := topClientsUptoRow, standIns := [], harness := (true, "182115534deedbbff28035818f7f184f0e1b2fd8e46ace3a3765652a64fda13f"), looks := false }, kinds := [], alts := [], laidByText := true, laidKinds := [.data, .data], laidTests := true, laidLooks := .later }
def TopClientsUptoCardSaid : Prop := Claim7.holds Tryz.pinned (.plain (OpenSpec.upto topClientsSpec)) topClientsUptoCard

/-- THE SECOND FORM's CARD OF 'conclavetop.TopRevoked'. -/
def topRevokedUptoCard : Claim7 := { stood := { row := topRevokedUptoRow, standIns := [], harness := (true, "182115534deedbbff28035818f7f184f0e1b2fd8e46ace3a3765652a64fda13f"), looks := false }, kinds := [], alts := [], laidByText := true, laidKinds := [.data, .data], laidTests := true, laidLooks := .later }
def TopRevokedUptoCardSaid : Prop := Claim7.holds Tryz.pinned (.plain (OpenSpec.upto topRevokedSpec)) topRevokedUptoCard
end Rows
end Go.Proofs.YtkfhncfkagcamaaGreatDoor
