/- Part W19. -/
import Derived.Test.YtdpjmhgbmhjniaaDoorW18
namespace Go.V
section
variable {P:Program} {T:World} {B:Nat} {h0:Hp} {F:Env} {ty:TypeId} {C:Value→Prop} {h:Hp}
end
end Go.V
