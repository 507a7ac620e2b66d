/- The digest's table of numbers, off a row's list; a start that holds it; no condition but those in the statements. -/
import Derived.Test.YtnpacofabdgcdaaDoorW16
import Derived.Test.YtnpacofabdgcdaaDoorShap
import Derived.ProofKit
namespace Go.Proofs.YtnpacofabdgcdaaDoor
open Go Go.V
set_option linter.unusedSimpArgs false
set_option linter.unusedVariables false
set_option maxRecDepth 100000
theorem gSha : Tryd.prog.globalNamed "conclave/sha.numbers" = some 2 := by kernel_rfl
theorem gShaT : (Tryd.prog.globals[2]?).map (·.type) = some 202 := by kernel_rfl
theorem shaData : (Rows.laid_conclave_sha_numbers : DataW Unit) = Lib.tabData .u32 (kN.map fun n : Nat => (n : Int)) := by kernel_rfl
theorem shaTab {W : World} (h : laidMetH Tryd.prog [("conclave/sha.numbers", Rows.laid_conclave_sha_numbers)] W) : Tab 2 wv kN W.heap := by
  rw [shaData] at h
  exact tab_of gSha (Lib.tabIs_of_head (rest := []) gSha gShaT Tryd.underlying202 Tryd.underlying151 (by kernel_rfl) (by kernel_rfl) h) (by decide)
theorem doorShaped (os : Os) (args : Array Value) : ((World.doorLaid Tryd.prog 87 os).forCall (fun _ _ => 0) ⟨#[], args, []⟩).Shaped Tryd.prog := World.shaped_of_RefB (by kernel_rfl) (by kernel_rfl)
end Go.Proofs.YtnpacofabdgcdaaDoor
