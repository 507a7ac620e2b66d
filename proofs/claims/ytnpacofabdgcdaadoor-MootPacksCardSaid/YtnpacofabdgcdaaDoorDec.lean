/- OrderDecodes holds: order.Decode answers what the document says, at every argument; without any condition. -/
import Derived.Test.YtnpacofabdgcdaaDoorEnc
import Derived.Test.YtnpacofabdgcdaaDoorW8
namespace Go.Proofs.YtnpacofabdgcdaaDoor
open Go Go.V
set_option linter.unusedSimpArgs false
set_option linter.unusedVariables false
set_option maxRecDepth 100000
/-- A number of four bytes, the highest one first. -/
def be4 (l : List Nat) (i : Nat) : Nat := l.getD i 0 * 16777216 + l.getD (i + 1) 0 * 65536 + l.getD (i + 2) 0 * 256 + l.getD (i + 3) 0
def cmdZ : List Value := cmdC 0 0 0 0 0
def decErr (l : List Nat) : Int := if l.length = 20 then cmdErr (be4 l 0) (be4 l 4) (be4 l 8) (be4 l 12) (be4 l 16) else 1
def decC (l : List Nat) : List Value := if decErr l = 0 then cmdC (be4 l 0) (be4 l 4) (be4 l 8) (be4 l 12) (be4 l 16) else cmdZ
end Go.Proofs.YtnpacofabdgcdaaDoor
