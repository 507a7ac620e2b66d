/- W14: copy of bytes (or of whatever takes one cell) into a block. -/
import Derived.Test.YtiakfdpmapmifaaW13
namespace Go.V
set_option linter.unusedVariables false
set_option linter.unusedSimpArgs false
section
variable {P : Program} {T : World} {K : Value → Hp → Prop} {F : Env} {h : Hp} {ty : TypeId}
theorem firstCells_len {n m : Nat} {p : Option Addr} {k c k' c' : Nat} : Builtin.firstCells n m (.slice p k c) = Builtin.firstCells n m (.slice p k' c') := by cases p <;> rfl
end
end Go.V
