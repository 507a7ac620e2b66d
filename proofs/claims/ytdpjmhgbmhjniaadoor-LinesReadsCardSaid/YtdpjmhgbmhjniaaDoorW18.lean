/- Part W18. -/
import Derived.Test.YtdpjmhgbmhjniaaDoorW16
import Derived.Lib.Overlaps
namespace Go.V
set_option linter.unusedVariables false
set_option linter.unusedSimpArgs false
section
variable {P:Program} {T:World} {K:Value→Hp→Prop} {F:Env} {h:Hp} {ty:TypeId}
end
section
variable {P:Program} {T:World} {B:Nat} {h0:Hp} {F:Env} {ty:TypeId} {C:Value→Prop} {h:Hp}
@[go_sem ↓] theorem Gi {K:Value→Hp→Prop} {op:BinOp} {t t':TypeId} {x y:Operand}:Je P T (.binOp op t x y t') ty K F h=ZI P op t x y (ev F x) (ev F y) K h:=rfl
end
end Go.V
