/- Part W14. -/
import Derived.Test.YtdpjmhgbmhjniaaDoorW13
namespace Go.V
set_option linter.unusedVariables false
set_option linter.unusedSimpArgs false
section
variable {P:Program} {T:World} {K:Value→Hp→Prop} {F:Env} {h:Hp} {ty:TypeId}
end
end Go.V
