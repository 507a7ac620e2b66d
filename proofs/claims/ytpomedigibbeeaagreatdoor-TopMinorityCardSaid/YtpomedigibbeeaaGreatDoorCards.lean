/-
  DERIVED. GIVEN WITH THE SEED: THE CARDS: each row of YtpomedigibbeeaaGreatDoorRows.lean that lists a variable, with what it lists TIED to the program's text (the seventh form; the later family's looks); each row that meets fmt, with fmt's text TOLD by the authors' own Lean function (tested against real Go, not proved from fmt's source: count such statements apart). THE CARD IS WHAT COUNTS. Prove the row's statement (the work); the ties are given (YtpomedigibbeeaaGreatDoorTie.lean); close each card by the builder's one call (the guide's Derived/Test/ToyasCard.lean, 'card_holds'). Laid BY PROGRAM, IN A SANDBOX (cutbox-door.mjs). By AI agents, Wed Nov 11 2026. No macro, syntax, notation, axiom, sorry.
-/
import Derived.Test.YtpomedigibbeeaaGreatDoorRows
import GoSem.ClaimSeven
namespace Go.Proofs.YtpomedigibbeeaaGreatDoor
namespace Rows

/-- THE TIED CARD OF 'conclavetop.TopGrows'. -/
def topGrowsCard : Claim7 := { stood := { row := topGrowsRow, standIns := [], harness := (true, "71b19556b27563707c87dca3768f85b329ee0d2f66fa579d477b0de17f4d8a1e"), looks := false }, kinds := [], alts := [], laidByText := true, laidKinds := [.data, .data], laidTests := true, laidLooks := .later }
def TopGrowsCardSaid : Prop := Claim7.holds Tryz.pinned (.plain (OpenSpec.ofChange topGrowsSpec)) topGrowsCard

/-- THE TIED CARD OF 'conclavetop.TopSubmitted'. -/
def topSubmittedCard : Claim7 := { stood := { row := topSubmittedRow, standIns := [], harness := (true, "71b19556b27563707c87dca3768f85b329ee0d2f66fa579d477b0de17f4d8a1e"), looks := false }, kinds := [], alts := [], laidByText := true, laidKinds := [.data, .data], laidTests := true, laidLooks := .later }
def TopSubmittedCardSaid : Prop := Claim7.holds Tryz.pinned (.plain (OpenSpec.ofChange topSubmittedSpec)) topSubmittedCard

/-- THE TIED CARD OF 'conclavetop.TopForged'. -/
def topForgedCard : Claim7 := { stood := { row := topForgedRow, standIns := [], harness := (true, "71b19556b27563707c87dca3768f85b329ee0d2f66fa579d477b0de17f4d8a1e"), looks := false }, kinds := [], alts := [], laidByText := true, laidKinds := [.data, .data], laidTests := true, laidLooks := .later }
def TopForgedCardSaid : Prop := Claim7.holds Tryz.pinned (.plain (OpenSpec.ofChange topForgedSpec)) topForgedCard

/-- THE TIED CARD OF 'conclavetop.TopLeaderless'. -/
def topLeaderlessCard : Claim7 := { stood := { row := topLeaderlessRow, standIns := [], harness := (true, "71b19556b27563707c87dca3768f85b329ee0d2f66fa579d477b0de17f4d8a1e"), looks := false }, kinds := [], alts := [], laidByText := true, laidKinds := [.data, .data], laidTests := true, laidLooks := .later }
def TopLeaderlessCardSaid : Prop := Claim7.holds Tryz.pinned (.plain (OpenSpec.ofChange topLeaderlessSpec)) topLeaderlessCard

/-- THE TIED CARD OF 'conclavetop.TopMinority'. -/
def topMinorityCard : Claim7 := { stood := { row := topMinorityRow, standIns := [], harness := (true, "71b19556b27563707c87dca3768f85b329ee0d2f66fa579d477b0de17f4d8a1e"), looks := false }, kinds := [], alts := [], laidByText := true, laidKinds := [.data, .data], laidTests := true, laidLooks := .later }
def TopMinorityCardSaid : Prop := Claim7.holds Tryz.pinned (.plain (OpenSpec.ofChange topMinoritySpec)) topMinorityCard

/-- THE TIED CARD OF 'conclavetop.TopBad'. -/
def topBadCard : Claim7 := { stood := { row := topBadRow, standIns := [], harness := (true, "71b19556b27563707c87dca3768f85b329ee0d2f66fa579d477b0de17f4d8a1e"), looks := false }, kinds := [], alts := [], laidByText := true, laidKinds := [.data, .data], laidTests := true, laidLooks := .later }
def TopBadCardSaid : Prop := Claim7.holds Tryz.pinned (.plain (OpenSpec.ofChange topBadSpec)) topBadCard

/-- THE TIED CARD OF 'conclavetop.TopChains'. -/
def topChainsCard : Claim7 := { stood := { row := topChainsRow, standIns := [], harness := (true, "71b19556b27563707c87dca3768f85b329ee0d2f66fa579d477b0de17f4d8a1e"), looks := false }, kinds := [], alts := [], laidByText := true, laidKinds := [.data, .data], laidTests := true, laidLooks := .later }
def TopChainsCardSaid : Prop := Claim7.holds Tryz.pinned (.plain (OpenSpec.ofChange topChainsSpec)) topChainsCard

/-- THE SECOND FORM's CARD OF 'conclavetop.TopGrows'. -/
def topGrowsUptoCard : Claim7 := { stood := { row := topGrowsUptoRow, standIns := [], harness := (true, "71b19556b27563707c87dca3768f85b329ee0d2f66fa579d477b0de17f4d8a1e"), looks := false }, kinds := [], alts := [], laidByText := true, laidKinds := [.data, .data], laidTests := true, laidLooks := .later }
def TopGrowsUptoCardSaid : Prop := Claim7.holds Tryz.pinned (.plain (OpenSpec.upto topGrowsSpec)) topGrowsUptoCard

/-- THE SECOND FORM's CARD OF 'conclavetop.TopSubmitted'. -/
def topSubmittedUptoCard : Claim7 := { stood := { row := topSubmittedUptoRow, standIns := [], harness := (true, "71b19556b27563707c87dca3768f85b329ee0d2f66fa579d477b0de17f4d8a1e"), looks := false }, kinds := [], alts := [], laidByText := true, laidKinds := [.data, .data], laidTests := true, laidLooks := .later }
def TopSubmittedUptoCardSaid : Prop := Claim7.holds Tryz.pinned (.plain (OpenSpec.upto topSubmittedSpec)) topSubmittedUptoCard

/-- THE SECOND FORM's CARD OF 'conclavetop.TopForged'. -/
def topForgedUptoCard : Claim7 := { stood := { row := topForgedUptoRow, standIns := [], harness := (true, "71b19556b27563707c87dca3768f85b329ee0d2f66fa579d477b0de17f4d8a1e"), looks := false }, kinds := [], alts := [], laidByText := true, laidKinds := [.data, .data], laidTests := true, laidLooks := .later }
def TopForgedUptoCardSaid : Prop := Claim7.holds Tryz.pinned (.plain (OpenSpec.upto topForgedSpec)) topForgedUptoCard

/-- THE SECOND FORM's CARD OF 'conclavetop.TopLeaderless'. -/
def topLeaderlessUptoCard : Claim7 := { stood := { row := topLeaderlessUptoRow, standIns := [], harness := (true, "71b19556b27563707c87dca3768f85b329ee0d2f66fa579d477b0de17f4d8a1e"), looks := false }, kinds := [], alts := [], laidByText := true, laidKinds := [.data, .data], laidTests := true, laidLooks := .later }
def TopLeaderlessUptoCardSaid : Prop := Claim7.holds Tryz.pinned (.plain (OpenSpec.upto topLeaderlessSpec)) topLeaderlessUptoCard

/-- THE SECOND FORM's CARD OF 'conclavetop.TopMinority'. -/
def topMinorityUptoCard : Claim7 := { stood := { row := topMinorityUptoRow, standIns := [], harness := (true, "71b19556b27563707c87dca3768f85b329ee0d2f66fa579d477b0de17f4d8a1e"), looks := false }, kinds := [], alts := [], laidByText := true, laidKinds := [.data, .data], laidTests := true, laidLooks := .later }
def TopMinorityUptoCardSaid : Prop := Claim7.holds Tryz.pinned (.plain (OpenSpec.upto topMinoritySpec)) topMinorityUptoCard

/-- THE SECOND FORM's CARD OF 'conclavetop.TopBad'. -/
def topBadUptoCard : Claim7 := { stood := { row := topBadUptoRow, standIns := [], harness := (true, "71b19556b27563707c87dca3768f85b329ee0d2f66fa579d477b0de17f4d8a1e"), looks := false }, kinds := [], alts := [], laidByText := true, laidKinds := [.data, .data], laidTests := true, laidLooks := .later }
def TopBadUptoCardSaid : Prop := Claim7.holds Tryz.pinned (.plain (OpenSpec.upto topBadSpec)) topBadUptoCard

/-- THE SECOND FORM's CARD OF 'conclavetop.TopChains'. -/
def topChainsUptoCard : Claim7 := { stood := { row := topChainsUptoRow, standIns := [], harness := (true, "71b19556b27563707c87dca3768f85b329ee0d2f66fa579d477b0de17f4d8a1e"), looks := false }, kinds := [], alts := [], laidByText := true, laidKinds := [.data, .data], laidTests := true, laidLooks := .later }
def TopChainsUptoCardSaid : Prop := Claim7.holds Tryz.pinned (.plain (OpenSpec.upto topChainsSpec)) topChainsUptoCard
end Rows
end Go.Proofs.YtpomedigibbeeaaGreatDoor
