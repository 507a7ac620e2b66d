/- W17: copies of elements of several cells; a body-less callee ('slices.overlaps'), run in place. -/
import Derived.Test.YtnpacofabdgcdaaDoorW16
import Derived.Lib.Overlaps
namespace Go.V
set_option linter.unusedVariables false
set_option linter.unusedSimpArgs false
section
variable {P : Program} {T : World} {K : Value → Hp → Prop} {F : Env} {h : Hp} {ty : TypeId}
end
end Go.V
namespace Go.V
section
variable {P : Program} {T : World} {B : Nat} {h0 : Hp} {F : Env} {ty : TypeId} {C : Value → Prop} {h : Hp}
@[go_sem] theorem hDo_call {x : Operand} {args : Array Operand} {ts : Array TypeId} : hDo P T B h0 (.call ⟨.value x, args, ts⟩) ty C F = ∃ v, (∀ h' : Hp, vCall P T (ev F x) (evL F args.toList) (kEq v h') h') ∧ ap C v := rfl
/-- Ahead of the unfolding: the kernel would else compare sums of symbolic words by counting. -/
@[go_sem ↓] theorem vDo_bin {K : Value → Hp → Prop} {op : BinOp} {t t' : TypeId} {x y : Operand} : vDo P T (.binOp op t x y t') ty K F h = vBin P op t x y (ev F x) (ev F y) K h := rfl
/-- A call that answers r, and leaves the heap. -/
theorem stillCall {f : FuncId} {args : Array Value} {r : Value} {C : Value → Prop} (c : ∀ h, CallsH P T f args h fun v' h' => v' = r ∧ h' = h) (H : C r) : ∃ v, (∀ h' : Hp, CallsH P T f args h' (kEq v h')) ∧ ap C v := ⟨r, fun h' => c h', H⟩
theorem stillCallQ {f : FuncId} {args : Array Value} {r : Value} {C : Value → Prop} (c : CallsH P T f args h fun v' h' => v' = r ∧ h' = h) (H : C r) : ∃ v, CallsH P T f args h (kEq v h) ∧ ap C v := ⟨r, c, H⟩
end
end Go.V
