/-
  DERIVED. GIVEN WITH THE SEED: THE CARDS: each row of YtnpacofabdgcdaaDoorRows.lean that lists a variable, with what it lists TIED to the program's text (the seventh form; the later family's looks); each row that meets fmt, with fmt's text TOLD by the authors' own Lean function (tested against real Go, not proved from fmt's source: count such statements apart). THE CARD IS WHAT COUNTS. Prove the row's statement (the work); the ties are given (YtnpacofabdgcdaaDoorTie.lean); close each card by the builder's one call (the guide's Derived/Test/ToyasCard.lean, 'card_holds'). Laid BY PROGRAM, IN A SANDBOX (cutbox-door.mjs). By AI agents, Wed Nov 11 2026. No macro, syntax, notation, axiom, sorry.
-/
import Derived.Test.YtnpacofabdgcdaaDoorRows
import GoSem.ClaimSeven
namespace Go.Proofs.YtnpacofabdgcdaaDoor
namespace Rows

/-- THE TIED CARD OF 'conclavelaw.OrderAllows'. -/
def orderAllowsCard : Claim7 := { stood := { row := orderAllowsRow, standIns := [], harness := (true, "6fe348a010e33c404967653ba58e4e59b839acd95aa416414733764de510b0fc"), looks := true }, kinds := [], alts := [], laidByText := true, laidKinds := [.data], laidTests := true, laidLooks := .later }
def OrderAllowsCardSaid : Prop := Claim7.holds Tryd.pinned (.plain (OpenSpec.ofChange orderAllowsSpec)) orderAllowsCard

/-- THE TIED CARD OF 'conclavelaw.ShaSums'. -/
def shaSumsCard : Claim7 := { stood := { row := shaSumsRow, standIns := [], harness := (true, "6fe348a010e33c404967653ba58e4e59b839acd95aa416414733764de510b0fc"), looks := true }, kinds := [], alts := [], laidByText := true, laidKinds := [.data], laidTests := true, laidLooks := .later }
def ShaSumsCardSaid : Prop := Claim7.holds Tryd.pinned (.plain (OpenSpec.ofChange shaSumsSpec)) shaSumsCard

/-- THE TIED CARD OF 'conclavelaw.ShaMacs'. -/
def shaMacsCard : Claim7 := { stood := { row := shaMacsRow, standIns := [], harness := (true, "6fe348a010e33c404967653ba58e4e59b839acd95aa416414733764de510b0fc"), looks := true }, kinds := [], alts := [], laidByText := true, laidKinds := [.data], laidTests := true, laidLooks := .later }
def ShaMacsCardSaid : Prop := Claim7.holds Tryd.pinned (.plain (OpenSpec.ofChange shaMacsSpec)) shaMacsCard

/-- THE TIED CARD OF 'conclavelaw.ShaDraws'. -/
def shaDrawsCard : Claim7 := { stood := { row := shaDrawsRow, standIns := [], harness := (true, "6fe348a010e33c404967653ba58e4e59b839acd95aa416414733764de510b0fc"), looks := true }, kinds := [], alts := [], laidByText := true, laidKinds := [.data], laidTests := true, laidLooks := .later }
def ShaDrawsCardSaid : Prop := Claim7.holds Tryd.pinned (.plain (OpenSpec.ofChange shaDrawsSpec)) shaDrawsCard

/-- THE TIED CARD OF 'conclavelaw.MootIssuers'. -/
def mootIssuersCard : Claim7 := { stood := { row := mootIssuersRow, standIns := [], harness := (true, "6fe348a010e33c404967653ba58e4e59b839acd95aa416414733764de510b0fc"), looks := true }, kinds := [], alts := [], laidByText := true, laidKinds := [.data], laidTests := true, laidLooks := .later }
def MootIssuersCardSaid : Prop := Claim7.holds Tryd.pinned (.plain (OpenSpec.ofChange mootIssuersSpec)) mootIssuersCard

/-- THE TIED CARD OF 'conclavelaw.MootKeys'. -/
def mootKeysCard : Claim7 := { stood := { row := mootKeysRow, standIns := [], harness := (true, "6fe348a010e33c404967653ba58e4e59b839acd95aa416414733764de510b0fc"), looks := true }, kinds := [], alts := [], laidByText := true, laidKinds := [.data], laidTests := true, laidLooks := .later }
def MootKeysCardSaid : Prop := Claim7.holds Tryd.pinned (.plain (OpenSpec.ofChange mootKeysSpec)) mootKeysCard

/-- THE TIED CARD OF 'conclavelaw.OrderGrants'. -/
def orderGrantsCard : Claim7 := { stood := { row := orderGrantsRow, standIns := [], harness := (true, "6fe348a010e33c404967653ba58e4e59b839acd95aa416414733764de510b0fc"), looks := true }, kinds := [], alts := [], laidByText := true, laidKinds := [.data], laidTests := true, laidLooks := .later }
def OrderGrantsCardSaid : Prop := Claim7.holds Tryd.pinned (.plain (OpenSpec.ofChange orderGrantsSpec)) orderGrantsCard

/-- THE TIED CARD OF 'conclavelaw.OrderProves'. -/
def orderProvesCard : Claim7 := { stood := { row := orderProvesRow, standIns := [], harness := (true, "6fe348a010e33c404967653ba58e4e59b839acd95aa416414733764de510b0fc"), looks := true }, kinds := [], alts := [], laidByText := true, laidKinds := [.data], laidTests := true, laidLooks := .later }
def OrderProvesCardSaid : Prop := Claim7.holds Tryd.pinned (.plain (OpenSpec.ofChange orderProvesSpec)) orderProvesCard

/-- THE TIED CARD OF 'conclavelaw.VaultChains'. -/
def vaultChainsCard : Claim7 := { stood := { row := vaultChainsRow, standIns := [], harness := (true, "6fe348a010e33c404967653ba58e4e59b839acd95aa416414733764de510b0fc"), looks := true }, kinds := [], alts := [], laidByText := true, laidKinds := [.data], laidTests := true, laidLooks := .later }
def VaultChainsCardSaid : Prop := Claim7.holds Tryd.pinned (.plain (OpenSpec.ofChange vaultChainsSpec)) vaultChainsCard

/-- THE TIED CARD OF 'conclavelaw.VaultAudits'. -/
def vaultAuditsCard : Claim7 := { stood := { row := vaultAuditsRow, standIns := [], harness := (true, "6fe348a010e33c404967653ba58e4e59b839acd95aa416414733764de510b0fc"), looks := true }, kinds := [], alts := [], laidByText := true, laidKinds := [.data], laidTests := true, laidLooks := .later }
def VaultAuditsCardSaid : Prop := Claim7.holds Tryd.pinned (.plain (OpenSpec.ofChange vaultAuditsSpec)) vaultAuditsCard

/-- THE TIED CARD OF 'conclavelaw.StablePromises'. -/
def stablePromisesCard : Claim7 := { stood := { row := stablePromisesRow, standIns := [], harness := (true, "6fe348a010e33c404967653ba58e4e59b839acd95aa416414733764de510b0fc"), looks := true }, kinds := [], alts := [], laidByText := true, laidKinds := [.data], laidTests := true, laidLooks := .later }
def StablePromisesCardSaid : Prop := Claim7.holds Tryd.pinned (.plain (OpenSpec.ofChange stablePromisesSpec)) stablePromisesCard

/-- THE TIED CARD OF 'conclavelaw.LinesShows'. -/
def linesShowsCard : Claim7 := { stood := { row := linesShowsRow, standIns := [], harness := (true, "6fe348a010e33c404967653ba58e4e59b839acd95aa416414733764de510b0fc"), looks := true }, kinds := [], alts := [], laidByText := true, laidKinds := [.data, .data, .data, .data], laidTests := true, laidLooks := .later }
def LinesShowsCardSaid : Prop := Claim7.holds Tryd.pinned (.plain (OpenSpec.ofChange linesShowsSpec)) linesShowsCard

/-- THE TIED CARD OF 'conclavelaw.StableVotes'. -/
def stableVotesCard : Claim7 := { stood := { row := stableVotesRow, standIns := [], harness := (true, "6fe348a010e33c404967653ba58e4e59b839acd95aa416414733764de510b0fc"), looks := true }, kinds := [], alts := [], laidByText := true, laidKinds := [.data], laidTests := true, laidLooks := .later }
def StableVotesCardSaid : Prop := Claim7.holds Tryd.pinned (.plain (OpenSpec.ofChange stableVotesSpec)) stableVotesCard

/-- THE TIED CARD OF 'conclavelaw.StableRecovers'. -/
def stableRecoversCard : Claim7 := { stood := { row := stableRecoversRow, standIns := [], harness := (true, "6fe348a010e33c404967653ba58e4e59b839acd95aa416414733764de510b0fc"), looks := true }, kinds := [], alts := [], laidByText := true, laidKinds := [.data], laidTests := true, laidLooks := .later }
def StableRecoversCardSaid : Prop := Claim7.holds Tryd.pinned (.plain (OpenSpec.ofChange stableRecoversSpec)) stableRecoversCard

/-- THE TIED CARD OF 'conclavelaw.StableRepairs'. -/
def stableRepairsCard : Claim7 := { stood := { row := stableRepairsRow, standIns := [], harness := (true, "6fe348a010e33c404967653ba58e4e59b839acd95aa416414733764de510b0fc"), looks := true }, kinds := [], alts := [], laidByText := true, laidKinds := [.data], laidTests := true, laidLooks := .later }
def StableRepairsCardSaid : Prop := Claim7.holds Tryd.pinned (.plain (OpenSpec.ofChange stableRepairsSpec)) stableRepairsCard

/-- THE TIED CARD OF 'conclavelaw.MootPacks'. -/
def mootPacksCard : Claim7 := { stood := { row := mootPacksRow, standIns := [], harness := (true, "6fe348a010e33c404967653ba58e4e59b839acd95aa416414733764de510b0fc"), looks := true }, kinds := [], alts := [], laidByText := true, laidKinds := [.data], laidTests := true, laidLooks := .later }
def MootPacksCardSaid : Prop := Claim7.holds Tryd.pinned (.plain (OpenSpec.ofChange mootPacksSpec)) mootPacksCard

/-- THE TIED CARD OF 'conclavelaw.MootOpens'. -/
def mootOpensCard : Claim7 := { stood := { row := mootOpensRow, standIns := [], harness := (true, "6fe348a010e33c404967653ba58e4e59b839acd95aa416414733764de510b0fc"), looks := true }, kinds := [], alts := [], laidByText := true, laidKinds := [.data, .data], laidTests := true, laidLooks := .later }
def MootOpensCardSaid : Prop := Claim7.holds Tryd.pinned (.plain (OpenSpec.ofChange mootOpensSpec)) mootOpensCard

/-- THE TIED CARD OF 'conclavelaw.LinesReads'. -/
def linesReadsCard : Claim7 := { stood := { row := linesReadsRow, standIns := [], harness := (true, "6fe348a010e33c404967653ba58e4e59b839acd95aa416414733764de510b0fc"), looks := true }, kinds := [], alts := [], laidByText := true, laidKinds := [.data, .data, .data, .data, .sentinel, .sentinel, .data, .pinned], laidTests := true, laidLooks := .later }
def LinesReadsCardSaid : Prop := Claim7.holds Tryd.pinned (.plain (OpenSpec.ofChange linesReadsSpec)) linesReadsCard

/-- THE SECOND FORM's CARD OF 'conclavelaw.OrderAllows'. -/
def orderAllowsUptoCard : Claim7 := { stood := { row := orderAllowsUptoRow, standIns := [], harness := (true, "6fe348a010e33c404967653ba58e4e59b839acd95aa416414733764de510b0fc"), looks := true }, kinds := [], alts := [], laidByText := true, laidKinds := [.data], laidTests := true, laidLooks := .later }
def OrderAllowsUptoCardSaid : Prop := Claim7.holds Tryd.pinned (.plain (OpenSpec.upto orderAllowsSpec)) orderAllowsUptoCard

/-- THE SECOND FORM's CARD OF 'conclavelaw.ShaSums'. -/
def shaSumsUptoCard : Claim7 := { stood := { row := shaSumsUptoRow, standIns := [], harness := (true, "6fe348a010e33c404967653ba58e4e59b839acd95aa416414733764de510b0fc"), looks := true }, kinds := [], alts := [], laidByText := true, laidKinds := [.data], laidTests := true, laidLooks := .later }
def ShaSumsUptoCardSaid : Prop := Claim7.holds Tryd.pinned (.plain (OpenSpec.upto shaSumsSpec)) shaSumsUptoCard

/-- THE SECOND FORM's CARD OF 'conclavelaw.ShaMacs'. -/
def shaMacsUptoCard : Claim7 := { stood := { row := shaMacsUptoRow, standIns := [], harness := (true, "6fe348a010e33c404967653ba58e4e59b839acd95aa416414733764de510b0fc"), looks := true }, kinds := [], alts := [], laidByText := true, laidKinds := [.data], laidTests := true, laidLooks := .later }
def ShaMacsUptoCardSaid : Prop := Claim7.holds Tryd.pinned (.plain (OpenSpec.upto shaMacsSpec)) shaMacsUptoCard

/-- THE SECOND FORM's CARD OF 'conclavelaw.ShaDraws'. -/
def shaDrawsUptoCard : Claim7 := { stood := { row := shaDrawsUptoRow, standIns := [], harness := (true, "6fe348a010e33c404967653ba58e4e59b839acd95aa416414733764de510b0fc"), looks := true }, kinds := [], alts := [], laidByText := true, laidKinds := [.data], laidTests := true, laidLooks := .later }
def ShaDrawsUptoCardSaid : Prop := Claim7.holds Tryd.pinned (.plain (OpenSpec.upto shaDrawsSpec)) shaDrawsUptoCard

/-- THE SECOND FORM's CARD OF 'conclavelaw.MootIssuers'. -/
def mootIssuersUptoCard : Claim7 := { stood := { row := mootIssuersUptoRow, standIns := [], harness := (true, "6fe348a010e33c404967653ba58e4e59b839acd95aa416414733764de510b0fc"), looks := true }, kinds := [], alts := [], laidByText := true, laidKinds := [.data], laidTests := true, laidLooks := .later }
def MootIssuersUptoCardSaid : Prop := Claim7.holds Tryd.pinned (.plain (OpenSpec.upto mootIssuersSpec)) mootIssuersUptoCard

/-- THE SECOND FORM's CARD OF 'conclavelaw.MootKeys'. -/
def mootKeysUptoCard : Claim7 := { stood := { row := mootKeysUptoRow, standIns := [], harness := (true, "6fe348a010e33c404967653ba58e4e59b839acd95aa416414733764de510b0fc"), looks := true }, kinds := [], alts := [], laidByText := true, laidKinds := [.data], laidTests := true, laidLooks := .later }
def MootKeysUptoCardSaid : Prop := Claim7.holds Tryd.pinned (.plain (OpenSpec.upto mootKeysSpec)) mootKeysUptoCard

/-- THE SECOND FORM's CARD OF 'conclavelaw.OrderGrants'. -/
def orderGrantsUptoCard : Claim7 := { stood := { row := orderGrantsUptoRow, standIns := [], harness := (true, "6fe348a010e33c404967653ba58e4e59b839acd95aa416414733764de510b0fc"), looks := true }, kinds := [], alts := [], laidByText := true, laidKinds := [.data], laidTests := true, laidLooks := .later }
def OrderGrantsUptoCardSaid : Prop := Claim7.holds Tryd.pinned (.plain (OpenSpec.upto orderGrantsSpec)) orderGrantsUptoCard

/-- THE SECOND FORM's CARD OF 'conclavelaw.OrderProves'. -/
def orderProvesUptoCard : Claim7 := { stood := { row := orderProvesUptoRow, standIns := [], harness := (true, "6fe348a010e33c404967653ba58e4e59b839acd95aa416414733764de510b0fc"), looks := true }, kinds := [], alts := [], laidByText := true, laidKinds := [.data], laidTests := true, laidLooks := .later }
def OrderProvesUptoCardSaid : Prop := Claim7.holds Tryd.pinned (.plain (OpenSpec.upto orderProvesSpec)) orderProvesUptoCard

/-- THE SECOND FORM's CARD OF 'conclavelaw.VaultChains'. -/
def vaultChainsUptoCard : Claim7 := { stood := { row := vaultChainsUptoRow, standIns := [], harness := (true, "6fe348a010e33c404967653ba58e4e59b839acd95aa416414733764de510b0fc"), looks := true }, kinds := [], alts := [], laidByText := true, laidKinds := [.data], laidTests := true, laidLooks := .later }
def VaultChainsUptoCardSaid : Prop := Claim7.holds Tryd.pinned (.plain (OpenSpec.upto vaultChainsSpec)) vaultChainsUptoCard

/-- THE SECOND FORM's CARD OF 'conclavelaw.VaultAudits'. -/
def vaultAuditsUptoCard : Claim7 := { stood := { row := vaultAuditsUptoRow, standIns := [], harness := (true, "6fe348a010e33c404967653ba58e4e59b839acd95aa416414733764de510b0fc"), looks := true }, kinds := [], alts := [], laidByText := true, laidKinds := [.data], laidTests := true, laidLooks := .later }
def VaultAuditsUptoCardSaid : Prop := Claim7.holds Tryd.pinned (.plain (OpenSpec.upto vaultAuditsSpec)) vaultAuditsUptoCard

/-- THE SECOND FORM's CARD OF 'conclavelaw.StablePromises'. -/
def stablePromisesUptoCard : Claim7 := { stood := { row := stablePromisesUptoRow, standIns := [], harness := (true, "6fe348a010e33c404967653ba58e4e59b839acd95aa416414733764de510b0fc"), looks := true }, kinds := [], alts := [], laidByText := true, laidKinds := [.data], laidTests := true, laidLooks := .later }
def StablePromisesUptoCardSaid : Prop := Claim7.holds Tryd.pinned (.plain (OpenSpec.upto stablePromisesSpec)) stablePromisesUptoCard

/-- THE SECOND FORM's CARD OF 'conclavelaw.LinesShows'. -/
def linesShowsUptoCard : Claim7 := { stood := { row := linesShowsUptoRow, standIns := [], harness := (true, "6fe348a010e33c404967653ba58e4e59b839acd95aa416414733764de510b0fc"), looks := true }, kinds := [], alts := [], laidByText := true, laidKinds := [.data, .data, .data, .data], laidTests := true, laidLooks := .later }
def LinesShowsUptoCardSaid : Prop := Claim7.holds Tryd.pinned (.plain (OpenSpec.upto linesShowsSpec)) linesShowsUptoCard

/-- THE SECOND FORM's CARD OF 'conclavelaw.StableVotes'. -/
def stableVotesUptoCard : Claim7 := { stood := { row := stableVotesUptoRow, standIns := [], harness := (true, "6fe348a010e33c404967653ba58e4e59b839acd95aa416414733764de510b0fc"), looks := true }, kinds := [], alts := [], laidByText := true, laidKinds := [.data], laidTests := true, laidLooks := .later }
def StableVotesUptoCardSaid : Prop := Claim7.holds Tryd.pinned (.plain (OpenSpec.upto stableVotesSpec)) stableVotesUptoCard

/-- THE SECOND FORM's CARD OF 'conclavelaw.StableRecovers'. -/
def stableRecoversUptoCard : Claim7 := { stood := { row := stableRecoversUptoRow, standIns := [], harness := (true, "6fe348a010e33c404967653ba58e4e59b839acd95aa416414733764de510b0fc"), looks := true }, kinds := [], alts := [], laidByText := true, laidKinds := [.data], laidTests := true, laidLooks := .later }
def StableRecoversUptoCardSaid : Prop := Claim7.holds Tryd.pinned (.plain (OpenSpec.upto stableRecoversSpec)) stableRecoversUptoCard

/-- THE SECOND FORM's CARD OF 'conclavelaw.StableRepairs'. -/
def stableRepairsUptoCard : Claim7 := { stood := { row := stableRepairsUptoRow, standIns := [], harness := (true, "6fe348a010e33c404967653ba58e4e59b839acd95aa416414733764de510b0fc"), looks := true }, kinds := [], alts := [], laidByText := true, laidKinds := [.data], laidTests := true, laidLooks := .later }
def StableRepairsUptoCardSaid : Prop := Claim7.holds Tryd.pinned (.plain (OpenSpec.upto stableRepairsSpec)) stableRepairsUptoCard

/-- THE SECOND FORM's CARD OF 'conclavelaw.MootPacks'. -/
def mootPacksUptoCard : Claim7 := { stood := { row := mootPacksUptoRow, standIns := [], harness := (true, "6fe348a010e33c404967653ba58e4e59b839acd95aa416414733764de510b0fc"), looks := true }, kinds := [], alts := [], laidByText := true, laidKinds := [.data], laidTests := true, laidLooks := .later }
def MootPacksUptoCardSaid : Prop := Claim7.holds Tryd.pinned (.plain (OpenSpec.upto mootPacksSpec)) mootPacksUptoCard

/-- THE SECOND FORM's CARD OF 'conclavelaw.MootOpens'. -/
def mootOpensUptoCard : Claim7 := { stood := { row := mootOpensUptoRow, standIns := [], harness := (true, "6fe348a010e33c404967653ba58e4e59b839acd95aa416414733764de510b0fc"), looks := true }, kinds := [], alts := [], laidByText := true, laidKinds := [.data, .data], laidTests := true, laidLooks := .later }
def MootOpensUptoCardSaid : Prop := Claim7.holds Tryd.pinned (.plain (OpenSpec.upto mootOpensSpec)) mootOpensUptoCard

/-- THE SECOND FORM's CARD OF 'conclavelaw.LinesReads'. -/
def linesReadsUptoCard : Claim7 := { stood := { row := linesReadsUptoRow, standIns := [], harness := (true, "6fe348a010e33c404967653ba58e4e59b839acd95aa416414733764de510b0fc"), looks := true }, kinds := [], alts := [], laidByText := true, laidKinds := [.data, .data, .data, .data, .sentinel, .sentinel, .data, .pinned], laidTests := true, laidLooks := .later }
def LinesReadsUptoCardSaid : Prop := Claim7.holds Tryd.pinned (.plain (OpenSpec.upto linesReadsSpec)) linesReadsUptoCard
end Rows
end Go.Proofs.YtnpacofabdgcdaaDoor
