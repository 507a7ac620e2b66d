/- W15: 'append(v, make([]T, k)...)'. -/
import Derived.Test.YthlfaofofaphfaaDoorW14
namespace Go.V
set_option linter.unusedVariables false
set_option linter.unusedSimpArgs false
section
variable {P:Program} {T:World} {K:Value→Hp→Prop} {F:Env} {h:Hp} {ty:TypeId}
end
end Go.V
