/- What the carry changes: nothing modulo 2^130 - 5; no condition but those in the statements. -/
import Derived.Test.YtnpacofabdgcdaaDoorCar
import Derived.Test.YtnpacofabdgcdaaDoorRed
namespace Go.Proofs.YtnpacofabdgcdaaDoor
open Go Go.V
set_option linter.unusedSimpArgs false
set_option linter.unusedVariables false
set_option maxRecDepth 100000
def val26 : List Nat → Nat
  | [] => 0
  | x :: l => x + 67108864 * val26 l
theorem P130_eq : P130 = 1361129467683753853853498429727072845819 := rfl
theorem carry_five {a b c d e : Nat} : ∃ q r0 r1 r2 r3 r4 : Nat, carryN [a, b, c, d, e] 5 = [r0, r1, r2, r3, r4] ∧ val26 [a, b, c, d, e] = val26 [r0, r1, r2, r3, r4] + P130 * q ∧ r1 < 67108864 ∧ r2 < 67108864 ∧ r3 < 67108864 ∧ r4 < 67108864 ∧ r0 ≤ 67108863 + 5 * q ∧ q ≤ (e + (d + (c + (b + a / 67108864) / 67108864) / 67108864) / 67108864) / 67108864 := by
  refine ⟨(e + (d + (c + (b + a / 67108864) / 67108864) / 67108864) / 67108864) / 67108864, a % 67108864 + 5 * ((e + (d + (c + (b + a / 67108864) / 67108864) / 67108864) / 67108864) / 67108864), (b + a / 67108864) % 67108864, (c + (b + a / 67108864) / 67108864) % 67108864, (d + (c + (b + a / 67108864) / 67108864) / 67108864) % 67108864, (e + (d + (c + (b + a / 67108864) / 67108864) / 67108864) / 67108864) % 67108864, ?_, ?_, Nat.mod_lt _ (by decide), Nat.mod_lt _ (by decide), Nat.mod_lt _ (by decide), Nat.mod_lt _ (by decide), by omega, Nat.le_refl _⟩
  · rfl
  · simp only [val26, P130_eq]
    omega
end Go.Proofs.YtnpacofabdgcdaaDoor
