/- The two tables of numbers, off a row's list; a start that holds them all; no condition but those in the statements. -/
import Derived.Test.YtnpacofabdgcdaaDoorAlw
import Derived.Test.YtnpacofabdgcdaaDoorShap
import Derived.ProofKit
namespace Go.Proofs.YtnpacofabdgcdaaDoor
open Go Go.V
set_option linter.unusedSimpArgs false
set_option linter.unusedVariables false
set_option maxRecDepth 100000
theorem gNeed : Tryd.prog.globalNamed "conclave/order.need" = some 0 := by kernel_rfl
theorem gNeedT : (Tryd.prog.globals[0]?).map (·.type) = some 101 := by kernel_rfl
theorem gSha : Tryd.prog.globalNamed "conclave/sha.numbers" = some 2 := by kernel_rfl
theorem gShaT : (Tryd.prog.globals[2]?).map (·.type) = some 202 := by kernel_rfl
theorem needData : (Rows.laid_conclave_order_need : DataW Unit) = Lib.tabData .i64 (needN.map fun n : Nat => (n : Int)) := by kernel_rfl
theorem shaData : (Rows.laid_conclave_sha_numbers : DataW Unit) = Lib.tabData .u32 (kN.map fun n : Nat => (n : Int)) := by kernel_rfl
theorem needTab {W : World} (h : laidMetH Tryd.prog [("conclave/order.need", Rows.laid_conclave_order_need)] W) : Tab 0 iv needN W.heap := by
  rw [needData] at h
  exact tab_of gNeed (Lib.tabIs_of_head (rest := []) gNeed gNeedT Tryd.underlying101 Tryd.underlying3 (by kernel_rfl) (by kernel_rfl) h) (by decide)
theorem shaTab {W : World} (h : laidMetH Tryd.prog [("conclave/sha.numbers", Rows.laid_conclave_sha_numbers)] W) : Tab 2 wv kN W.heap := by
  rw [shaData] at h
  exact tab_of gSha (Lib.tabIs_of_head (rest := []) gSha gShaT Tryd.underlying202 Tryd.underlying151 (by kernel_rfl) (by kernel_rfl) h) (by decide)
theorem doorShaped (os : Os) (args : Array Value) : ((World.doorLaid Tryd.prog 87 os).forCall (fun _ _ => 0) ⟨#[], args, []⟩).Shaped Tryd.prog := World.shaped_of_RefB (by kernel_rfl) (by kernel_rfl)
theorem doorNeed (os : Os) (args : Array Value) : laidMetH Tryd.prog [("conclave/order.need", Rows.laid_conclave_order_need)] ((World.doorLaid Tryd.prog 87 os).forCall (fun _ _ => 0) ⟨#[], args, []⟩).memory :=
  laidMetH_of_parts3 (fuel := 8) (laidMet_of_run' 8 (by kernel_rfl) (by kernel_rfl)) (by kernel_rfl) (by kernel_rfl)
theorem doorSha (os : Os) (args : Array Value) : laidMetH Tryd.prog [("conclave/sha.numbers", Rows.laid_conclave_sha_numbers)] ((World.doorLaid Tryd.prog 87 os).forCall (fun _ _ => 0) ⟨#[], args, []⟩).memory :=
  laidMetH_of_parts3 (fuel := 8) (laidMet_of_run' 8 (by kernel_rfl) (by kernel_rfl)) (by kernel_rfl) (by kernel_rfl)
end Go.Proofs.YtnpacofabdgcdaaDoor
