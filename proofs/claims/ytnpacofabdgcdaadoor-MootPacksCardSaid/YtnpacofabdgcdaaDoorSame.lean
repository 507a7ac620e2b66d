/- The comparison that takes as long wherever two lists differ; no condition but those in the statements. -/
import Derived.Test.YtnpacofabdgcdaaDoorBase
namespace Go.Proofs.YtnpacofabdgcdaaDoor
open Go Go.V
set_option linter.unusedSimpArgs false
set_option linter.unusedVariables false
set_option maxRecDepth 100000
end Go.Proofs.YtnpacofabdgcdaaDoor
