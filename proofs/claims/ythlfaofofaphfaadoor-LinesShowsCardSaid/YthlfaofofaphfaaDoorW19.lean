/- W19: a constant string's bytes. -/
import Derived.Test.YthlfaofofaphfaaDoorW18
namespace Go.V
section
variable {P:Program} {T:World} {B:Nat} {h0:Hp} {F:Env} {ty:TypeId} {C:Value→Prop} {h:Hp}
end
end Go.V
