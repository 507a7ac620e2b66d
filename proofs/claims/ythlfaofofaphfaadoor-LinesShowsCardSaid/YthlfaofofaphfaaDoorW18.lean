/- W17: copies of elements of several cells; a body-less callee ('slices.overlaps'), run in place. -/
import Derived.Test.YthlfaofofaphfaaDoorW16
import Derived.Lib.Overlaps
namespace Go.V
set_option linter.unusedVariables false
set_option linter.unusedSimpArgs false
section
variable {P:Program} {T:World} {K:Value→Hp→Prop} {F:Env} {h:Hp} {ty:TypeId}
end
section
variable {P:Program} {T:World} {B:Nat} {h0:Hp} {F:Env} {ty:TypeId} {C:Value→Prop} {h:Hp}
@[go_sem ↓] theorem MA {K:Value→Hp→Prop} {op:BinOp} {t t':TypeId} {x y:Operand}:Xc P T (.binOp op t x y t') ty K F h=Zt P op t x y (ev F x) (ev F y) K h:=rfl
end
end Go.V
