/- W6: small facts on heaps and numbers. -/
import Derived.Test.YtiakfdpmapmifaaW5
namespace Go.V
theorem Bel.pp {B : Nat} {h : Hp} (hB : B ≤ h.size) (a b : Obj) : Bel B (h.push a) (h.push b) :=
  ⟨by simp, fun k hk => by rw [Array.getElem?_push, Array.getElem?_push, if_neg (by omega), if_neg (by omega)]⟩
end Go.V
