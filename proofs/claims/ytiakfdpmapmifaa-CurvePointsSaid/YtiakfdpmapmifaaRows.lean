/-
  No cell of these rows narrows 'for every input' (looked for: loops, veiled, ifaces, maps, wideKeys, modest, calm, conditions, laid).
  DERIVED. THE GIVEN ROWS OF THIS SEAT. 4 by the template 'for every input the law returns true; each argument reads behind the call as it read before'; 0 by the template 'total and deterministic' (their statements: YtiakfdpmapmifaaTotals.lean).
  GIVEN WITH THE SEED: the statements are not yours to turn. If you find one false, say at which input.
  Laid BY PROGRAM, IN A SANDBOX (cutbox-rows.mjs): the forced cells as the released guide's own fill.sh prints them over the translation 7930e0b29294bd92… (all of the seat's roots in one cut). By AI agents, Wed Nov 11 2026. No macro, syntax, notation, axiom, sorry.
-/
import Derived.Test.YtiakfdpmapmifaaChecked
import GoSem.Claim
import GoSem.ClaimJoined
import GoSem.ClaimMapViews
import Derived.JoinedTies
import Derived.KernelRfl
namespace Go.Proofs.Ytiakfdpmapmifaa
/- THE CELL 'sum', in the pinned program and in every row, IS THE sha256 OF THE DUMP (.gsa) THAT YtiakfdpmapmifaaProg.lean LOADS. Nothing in Lean hashes anything: it is a label: what it is worth is what the hold of that sum in a sandbox is worth. -/
noncomputable def Try.pinned : Pinned := { name := "ytiakfdpmapmifaa", sum := "7930e0b29294bd924812f5d1a54c4305081cf824eeed675b2a68b6b00f738e02", checked := Try.checked }
namespace Rows
def none {H : Type} : Left H := { results := [], args := [] }

/-- 'conclavelaw.PaxosChosens': WHATEVER THE INPUT: true; the input reads as it did. -/
def paxosChosensSpec : ChangeSpec := { name := "paxosChosens", fn := fun _ => fun
  | [d1, d2] => { results := [.lit (.bool true)], args := [d1, d2] }
  | _ => none }
def paxosChosensRow : OpenClaim := { program := "ytiakfdpmapmifaa", sum := "7930e0b29294bd924812f5d1a54c4305081cf824eeed675b2a68b6b00f738e02", func := "conclave/conclavelaw.PaxosChosens", spec := "paxosChosens", plainKeys := false, apart := false }
def PaxosChosensSaid : Prop := paxosChosensRow.holds Try.pinned (OpenSpec.ofChange paxosChosensSpec)

/-- ITS FALSE NEIGHBOUR: 'it returns false'. Refute it at one input. -/
def paxosChosensWrong : ChangeSpec := { name := "paxosChosens", fn := fun _ => fun
  | [d1, d2] => { results := [.lit (.bool false)], args := [d1, d2] }
  | _ => none }
def PaxosChosensWrongFalsely : Prop := paxosChosensRow.holds Try.pinned (OpenSpec.ofChange paxosChosensWrong)

/-- 'conclavelaw.CurveShareds': WHATEVER THE INPUT: true; the input reads as it did. -/
def curveSharedsSpec : ChangeSpec := { name := "curveShareds", fn := fun _ => fun
  | [d1, d2] => { results := [.lit (.bool true)], args := [d1, d2] }
  | _ => none }
def curveSharedsRow : OpenClaim := { program := "ytiakfdpmapmifaa", sum := "7930e0b29294bd924812f5d1a54c4305081cf824eeed675b2a68b6b00f738e02", func := "conclave/conclavelaw.CurveShareds", spec := "curveShareds", plainKeys := false, apart := false }
def CurveSharedsSaid : Prop := curveSharedsRow.holds Try.pinned (OpenSpec.ofChange curveSharedsSpec)

/-- ITS FALSE NEIGHBOUR: 'it returns false'. Refute it at one input. -/
def curveSharedsWrong : ChangeSpec := { name := "curveShareds", fn := fun _ => fun
  | [d1, d2] => { results := [.lit (.bool false)], args := [d1, d2] }
  | _ => none }
def CurveSharedsWrongFalsely : Prop := curveSharedsRow.holds Try.pinned (OpenSpec.ofChange curveSharedsWrong)

/-- 'conclavelaw.CurvePoints': WHATEVER THE INPUT: true; the input reads as it did. -/
def curvePointsSpec : ChangeSpec := { name := "curvePoints", fn := fun _ => fun
  | [d] => { results := [.lit (.bool true)], args := [d] }
  | _ => none }
def curvePointsRow : OpenClaim := { program := "ytiakfdpmapmifaa", sum := "7930e0b29294bd924812f5d1a54c4305081cf824eeed675b2a68b6b00f738e02", func := "conclave/conclavelaw.CurvePoints", spec := "curvePoints", plainKeys := false, apart := false }
def CurvePointsSaid : Prop := curvePointsRow.holds Try.pinned (OpenSpec.ofChange curvePointsSpec)

/-- ITS FALSE NEIGHBOUR: 'it returns false'. Refute it at one input. -/
def curvePointsWrong : ChangeSpec := { name := "curvePoints", fn := fun _ => fun
  | [d] => { results := [.lit (.bool false)], args := [d] }
  | _ => none }
def CurvePointsWrongFalsely : Prop := curvePointsRow.holds Try.pinned (OpenSpec.ofChange curvePointsWrong)

/-- 'conclavelaw.PaxosAccepts': WHATEVER THE INPUT: true; the input reads as it did. -/
def paxosAcceptsSpec : ChangeSpec := { name := "paxosAccepts", fn := fun _ => fun
  | [d1, d2] => { results := [.lit (.bool true)], args := [d1, d2] }
  | _ => none }
def paxosAcceptsRow : OpenClaim := { program := "ytiakfdpmapmifaa", sum := "7930e0b29294bd924812f5d1a54c4305081cf824eeed675b2a68b6b00f738e02", func := "conclave/conclavelaw.PaxosAccepts", spec := "paxosAccepts", inPlace := ["slices.overlaps[conclave/api.Vote]"], unfollowed := true, recurses := true, plainKeys := false, apart := false }
def PaxosAcceptsSaid : Prop := paxosAcceptsRow.holds Try.pinned (OpenSpec.ofChange paxosAcceptsSpec)

/-- ITS FALSE NEIGHBOUR: 'it returns false'. Refute it at one input. -/
def paxosAcceptsWrong : ChangeSpec := { name := "paxosAccepts", fn := fun _ => fun
  | [d1, d2] => { results := [.lit (.bool false)], args := [d1, d2] }
  | _ => none }
def PaxosAcceptsWrongFalsely : Prop := paxosAcceptsRow.holds Try.pinned (OpenSpec.ofChange paxosAcceptsWrong)

/- THE SECOND FORM. 'bulk': how many values and letters a reading holds, each counted each time it is reached (what is shared counts as often as it is met; a slice's spare places count too). A statement '..UptoSaid' is the law's where the arguments, and the package variables that the reading takes, are together of bulk at most 1048576: NARROWER than '..Said'. Prove '..Said' where nothing that the law and all that it calls make is longer than what came in: it says more and counts as full. Else prove '..UptoSaid'. A law counts once. -/
mutual
def uptoBulk {H : Type} : DataW H → Nat
  | .lit (.string bytes) => bytes.length + 1
  | .lit _ => 1
  | .nil => 1
  | .ptr d => uptoBulk d + 1
  | .slice elems spare => uptoBulkAll elems + uptoBulkAll spare + 1
  | .agg parts => uptoBulkAll parts + 1
  | .iface _ d => uptoBulk d + 1
  | .map entries => uptoBulkEntries entries + 1
  | .held _ => 1
def uptoBulkAll {H : Type} : List (DataW H) → Nat
  | [] => 0
  | d :: r => uptoBulk d + uptoBulkAll r
def uptoBulkEntries {H : Type} : List (Lit × DataW H) → Nat
  | [] => 0
  | x :: r => uptoBulkEntry x + uptoBulkEntries r
def uptoBulkEntry {H : Type} : Lit × DataW H → Nat
  | (.string bytes, d) => bytes.length + uptoBulk d + 1
  | (_, d) => uptoBulk d + 1
 end
def uptoSmall : (H : Type) → List (DataW H) → Bool := fun _ ds => decide (uptoBulkAll ds ≤ 1048576)
def OpenSpec.upto (s : _root_.Go.ChangeSpec) : _root_.Go.OpenSpec := { _root_.Go.OpenSpec.ofChange s with cond := some uptoSmall }

/-- 'conclavelaw.PaxosChosens', WHERE WHAT IT READS IS OF BULK AT MOST 1048576: true; the input reads as it did. -/
def paxosChosensUptoRow : OpenClaim := { program := "ytiakfdpmapmifaa", sum := "7930e0b29294bd924812f5d1a54c4305081cf824eeed675b2a68b6b00f738e02", func := "conclave/conclavelaw.PaxosChosens", spec := "paxosChosens", plainKeys := false, apart := false, narrowed := true }
def PaxosChosensUptoSaid : Prop := paxosChosensUptoRow.holds Try.pinned (OpenSpec.upto paxosChosensSpec)

/-- 'conclavelaw.CurveShareds', WHERE WHAT IT READS IS OF BULK AT MOST 1048576: true; the input reads as it did. -/
def curveSharedsUptoRow : OpenClaim := { program := "ytiakfdpmapmifaa", sum := "7930e0b29294bd924812f5d1a54c4305081cf824eeed675b2a68b6b00f738e02", func := "conclave/conclavelaw.CurveShareds", spec := "curveShareds", plainKeys := false, apart := false, narrowed := true }
def CurveSharedsUptoSaid : Prop := curveSharedsUptoRow.holds Try.pinned (OpenSpec.upto curveSharedsSpec)

/-- 'conclavelaw.CurvePoints', WHERE WHAT IT READS IS OF BULK AT MOST 1048576: true; the input reads as it did. -/
def curvePointsUptoRow : OpenClaim := { program := "ytiakfdpmapmifaa", sum := "7930e0b29294bd924812f5d1a54c4305081cf824eeed675b2a68b6b00f738e02", func := "conclave/conclavelaw.CurvePoints", spec := "curvePoints", plainKeys := false, apart := false, narrowed := true }
def CurvePointsUptoSaid : Prop := curvePointsUptoRow.holds Try.pinned (OpenSpec.upto curvePointsSpec)

/-- 'conclavelaw.PaxosAccepts', WHERE WHAT IT READS IS OF BULK AT MOST 1048576: true; the input reads as it did. -/
def paxosAcceptsUptoRow : OpenClaim := { program := "ytiakfdpmapmifaa", sum := "7930e0b29294bd924812f5d1a54c4305081cf824eeed675b2a68b6b00f738e02", func := "conclave/conclavelaw.PaxosAccepts", spec := "paxosAccepts", inPlace := ["slices.overlaps[conclave/api.Vote]"], unfollowed := true, recurses := true, plainKeys := false, apart := false, narrowed := true }
def PaxosAcceptsUptoSaid : Prop := paxosAcceptsUptoRow.holds Try.pinned (OpenSpec.upto paxosAcceptsSpec)

end Rows
end Go.Proofs.Ytiakfdpmapmifaa
