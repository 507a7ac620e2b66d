/- Part W15. -/
import Derived.Test.YtdpjmhgbmhjniaaDoorW14
namespace Go.V
set_option linter.unusedVariables false
set_option linter.unusedSimpArgs false
section
variable {P:Program} {T:World} {K:Value→Hp→Prop} {F:Env} {h:Hp} {ty:TypeId}
end
end Go.V
