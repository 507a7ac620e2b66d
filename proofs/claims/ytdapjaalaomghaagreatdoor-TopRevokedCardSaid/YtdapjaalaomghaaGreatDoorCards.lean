/-
  DERIVED. GIVEN WITH THE SEED: THE CARDS: each row of YtdapjaalaomghaaGreatDoorRows.lean that lists a variable, with what it lists TIED to the program's text (the seventh form; the later family's looks); each row that meets fmt, with fmt's text TOLD by the authors' own Lean function (tested against real Go, not proved from fmt's source: count such statements apart). THE CARD IS WHAT COUNTS. Prove the row's statement (the work); the ties are given (YtdapjaalaomghaaGreatDoorTie.lean); close each card by the builder's one call (the guide's Derived/Test/ToyasCard.lean, 'card_holds'). Laid BY PROGRAM, IN A SANDBOX (cutbox-door.mjs). By AI agents, Wed Nov 11 2026. No macro, syntax, notation, axiom, sorry.
-/
import Derived.Test.YtdapjaalaomghaaGreatDoorRows
import GoSem.ClaimSeven
namespace Go.Proofs.YtdapjaalaomghaaGreatDoor
namespace Rows

/-- THE TIED CARD OF 'conclavetop.TopRevoked'. -/
def topRevokedCard : Claim7 := { stood := { row := topRevokedRow, standIns := [], harness := (true, "a265e6d97eb73fd5996cbde95de5d1c57376c1ffaf49aabbb2be97a590648d1b"), looks := false }, kinds := [], alts := [], laidByText := true, laidKinds := [.data, .data], laidTests := true, laidLooks := .later }
def TopRevokedCardSaid : Prop := Claim7.holds Tryz.pinned (.plain (OpenSpec.ofChange topRevokedSpec)) topRevokedCard

/-- THE SECOND FORM's CARD OF 'conclavetop.TopRevoked'. -/
def topRevokedUptoCard : Claim7 := { stood := { row := topRevokedUptoRow, standIns := [], harness := (true, "a265e6d97eb73fd5996cbde95de5d1c57376c1ffaf49aabbb2be97a590648d1b"), looks := false }, kinds := [], alts := [], laidByText := true, laidKinds := [.data, .data], laidTests := true, laidLooks := .later }
def TopRevokedUptoCardSaid : Prop := Claim7.holds Tryz.pinned (.plain (OpenSpec.upto topRevokedSpec)) topRevokedUptoCard
end Rows
end Go.Proofs.YtdapjaalaomghaaGreatDoor
