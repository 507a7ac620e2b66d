/- W20: append of zeros, and where its result lies; two slices of two types of elements. -/
import Derived.Test.YtiakfdpmapmifaaW19
namespace Go.V
set_option linter.unusedVariables false
set_option linter.unusedSimpArgs false
section
variable {P : Program} {T : World} {K : Value → Hp → Prop} {F : Env} {h : Hp} {ty : TypeId}
end
end Go.V
