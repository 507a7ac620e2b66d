/- W17: copies of elements of several cells; a body-less callee ('slices.overlaps'), run in place. -/
import Derived.Test.YtiakfdpmapmifaaW16
import Derived.Lib.Overlaps
namespace Go.V
set_option linter.unusedVariables false
set_option linter.unusedSimpArgs false
section
variable {P : Program} {T : World} {K : Value → Hp → Prop} {F : Env} {h : Hp} {ty : TypeId}
end
end Go.V
