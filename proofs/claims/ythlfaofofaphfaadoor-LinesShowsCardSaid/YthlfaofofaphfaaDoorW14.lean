/- W14: copy of bytes (or of whatever takes one cell) into a block. -/
import Derived.Test.YthlfaofofaphfaaDoorW13
namespace Go.V
set_option linter.unusedVariables false
set_option linter.unusedSimpArgs false
section
variable {P:Program} {T:World} {K:Value→Hp→Prop} {F:Env} {h:Hp} {ty:TypeId}
end
end Go.V
