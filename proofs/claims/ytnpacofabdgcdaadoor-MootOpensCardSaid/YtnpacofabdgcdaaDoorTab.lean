/- The digest's table of numbers, off a row's list; a start that holds it; no condition but those in the statements. -/
import Derived.Test.YtnpacofabdgcdaaDoorW16
import Derived.Test.YtnpacofabdgcdaaDoorAlw
import Derived.ProofKit
namespace Go.Proofs.YtnpacofabdgcdaaDoor
open Go Go.V
set_option linter.unusedSimpArgs false
set_option linter.unusedVariables false
set_option maxRecDepth 100000
theorem gNeed : Tryd.prog.globalNamed "conclave/order.need" = some 0 := by kernel_rfl
theorem gNeedT : (Tryd.prog.globals[0]?).map (·.type) = some 101 := by kernel_rfl
theorem needData : (Rows.laid_conclave_order_need : DataW Unit) = Lib.tabData .i64 (needN.map fun n : Nat => (n : Int)) := by kernel_rfl
theorem needTab {W : World} (h : laidMetH Tryd.prog [("conclave/order.need", Rows.laid_conclave_order_need)] W) : Tab 0 niv needN W.heap := by
  rw [needData] at h
  exact tab_of gNeed (Lib.tabIs_of_head (rest := []) gNeed gNeedT Tryd.underlying101 Tryd.underlying3 (by kernel_rfl) (by kernel_rfl) h) (by decide)
end Go.Proofs.YtnpacofabdgcdaaDoor
