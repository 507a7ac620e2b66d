/- W18: a pure call inside a region that draws. -/
import Derived.Test.YtiakfdpmapmifaaW17
namespace Go.V
section
variable {P : Program} {T : World} {B : Nat} {h0 : Hp} {F : Env} {ty : TypeId} {C : Value → Prop} {h : Hp}
@[go_sem] theorem hDo_call {x : Operand} {args : Array Operand} {ts : Array TypeId} : hDo P T B h0 (.call ⟨.value x, args, ts⟩) ty C F = ∃ v, (∀ h' : Hp, vCall P T (ev F x) (evL F args.toList) (kEq v h') h') ∧ ap C v := rfl
/-- Ahead of the unfolding: the kernel would else compare sums of symbolic words by counting. -/
@[go_sem ↓] theorem vDo_bin {K : Value → Hp → Prop} {op : BinOp} {t t' : TypeId} {x y : Operand} : vDo P T (.binOp op t x y t') ty K F h = vBin P op t x y (ev F x) (ev F y) K h := rfl
end
end Go.V
