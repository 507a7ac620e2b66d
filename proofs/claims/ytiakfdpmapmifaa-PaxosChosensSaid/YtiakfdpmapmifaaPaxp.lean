/- PaxosPromises holds: paxos.Promise answers what the document says, at every argument, and changes none of them; without any condition. -/
import Derived.Test.YtiakfdpmapmifaaPax
namespace Go.Proofs.Ytiakfdpmapmifaa
open Go Go.V
set_option linter.unusedSimpArgs false
set_option linter.unusedVariables false
set_option maxRecDepth 100000
def voteK : List (Option IntKind) := rep 8 [some .i64]
def prErr (p : Bal) (l : List Vt) (b : Bal) : Int := if accErr p l ≠ 0 then 5 else if ¬ ballotMay b then 2 else if below b p then 7 else 0
theorem accErr_five (p : Bal) (l : List Vt) : accErr p l = 0 ∨ accErr p l = 5 := by
  unfold accErr
  repeat' split
  all_goals simp
def PrRes (B : Nat) (h' : Hp) (v' : Value) (p : Bal) (l : List Vt) (b : Bal) : Prop := ∃ w1 w2, v' = .tuple [.agg (accC (if prErr p l b = 0 then b else ⟨0, 0⟩) w1).toArray, w2, .int .i64 (prErr p l b)].toArray ∧
  Ots B 43 voteC 8 h' w1 (if prErr p l b = 0 then l else []) ∧ Ots B 43 voteC 8 h' w2 (if prErr p l b = 0 then l else [])
end Go.Proofs.Ytiakfdpmapmifaa
