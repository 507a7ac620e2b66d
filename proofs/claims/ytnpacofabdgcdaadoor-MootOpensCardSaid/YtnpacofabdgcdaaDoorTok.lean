/- Tokens: whether one may be; no condition but those in the statements. -/
import Derived.Test.YtnpacofabdgcdaaDoorOchk
namespace Go.Proofs.YtnpacofabdgcdaaDoor
open Go Go.V
set_option linter.unusedSimpArgs false
set_option linter.unusedVariables false
set_option maxRecDepth 100000
/-- A token's cells. -/
def tokC (c r u : Int) : List Value := [.int .i64 c, .int .i64 r, .int .i64 u]
/-- What a token's check answers. -/
def tokErr (c r u : Int) : Int := if ¬ (0 ≤ c ∧ c ≤ 7) ∨ ¬ (0 ≤ r ∧ r ≤ 7) ∨ ¬ (0 ≤ u ∧ u ≤ 1048576) then 2 else 0
theorem token_ok (T : World) (h : Hp) (c r u : Int) :
    CallsH Tryd.prog T 67 #[.agg (tokC c r u).toArray] h fun v' h' => v' = .int .i64 (tokErr c r u) ∧ h' = h.push (.cells (tokC c r u).toArray 23) := by
  refine CallsH.of_code' (args := [_]) Tryd.func67 rfl rfl rfl rfl ?_
  unfold tokC
  by_cases q0 : 0 ≤ c ∧ c ≤ 7
  ·
    by_cases q1 : 0 ≤ r ∧ r ≤ 7
    ·
      by_cases q2 : 0 ≤ u ∧ u ≤ 1048576
      ·
        repeat' (first | (refine (within_ok T _ _ _ _).pure ?_) | simp (config := {contextual := true, maxSteps := 2000000, implicitDefEqProofs := false}) only [go_sem, ↓reduceIte, Nat.reduceEqDiff, Nat.reduceAdd, Nat.reduceMul, Nat.reduceLeDiff, Nat.reduceLT, Nat.reduceSub, IntWalk.iteOmega, IntWalk.toNatUp, reduceCtorEq, Int.reduceLE, Int.reduceLT, Int.reduceToNat, Int.reduceNeg, *])
        all_goals (first | rfl | (congr 1; unfold tokErr; (repeat' split) <;> omega))
      ·
        repeat' (first | (refine (within_ok T _ _ _ _).pure ?_) | simp (config := {contextual := true, maxSteps := 2000000, implicitDefEqProofs := false}) only [go_sem, ↓reduceIte, Nat.reduceEqDiff, Nat.reduceAdd, Nat.reduceMul, Nat.reduceLeDiff, Nat.reduceLT, Nat.reduceSub, IntWalk.iteOmega, IntWalk.toNatUp, reduceCtorEq, Int.reduceLE, Int.reduceLT, Int.reduceToNat, Int.reduceNeg, *])
        all_goals (first | rfl | (congr 1; unfold tokErr; (repeat' split) <;> omega))
    ·
      repeat' (first | (refine (within_ok T _ _ _ _).pure ?_) | simp (config := {contextual := true, maxSteps := 2000000, implicitDefEqProofs := false}) only [go_sem, ↓reduceIte, Nat.reduceEqDiff, Nat.reduceAdd, Nat.reduceMul, Nat.reduceLeDiff, Nat.reduceLT, Nat.reduceSub, IntWalk.iteOmega, IntWalk.toNatUp, reduceCtorEq, Int.reduceLE, Int.reduceLT, Int.reduceToNat, Int.reduceNeg, *])
      all_goals (first | rfl | (congr 1; unfold tokErr; (repeat' split) <;> omega))
  ·
    repeat' (first | (refine (within_ok T _ _ _ _).pure ?_) | simp (config := {contextual := true, maxSteps := 2000000, implicitDefEqProofs := false}) only [go_sem, ↓reduceIte, Nat.reduceEqDiff, Nat.reduceAdd, Nat.reduceMul, Nat.reduceLeDiff, Nat.reduceLT, Nat.reduceSub, IntWalk.iteOmega, IntWalk.toNatUp, reduceCtorEq, Int.reduceLE, Int.reduceLT, Int.reduceToNat, Int.reduceNeg, *])
    all_goals (first | rfl | (congr 1; unfold tokErr; (repeat' split) <;> omega))
theorem tokenFault_ok (T : World) (h : Hp) (c r u : Int) :
    CallsH Tryd.prog T 69 #[.agg (tokC c r u).toArray] h fun v' h' => v' = .int .i64 (tokErr c r u) ∧ h' = h.push (.cells (tokC c r u).toArray 23) := by
  refine CallsH.of_code' (args := [_]) Tryd.func69 rfl rfl rfl rfl ?_
  unfold tokC
  by_cases q0 : 0 ≤ c ∧ c ≤ 7
  ·
    by_cases q1 : 0 ≤ r ∧ r ≤ 7
    ·
      by_cases q2 : 0 ≤ u ∧ u ≤ 1048576
      ·
        repeat' (first | (refine (in_ok T _ _ _ _).pure ?_) | simp (config := {contextual := true, maxSteps := 2000000, implicitDefEqProofs := false}) only [go_sem, ↓reduceIte, Nat.reduceEqDiff, Nat.reduceAdd, Nat.reduceMul, Nat.reduceLeDiff, Nat.reduceLT, Nat.reduceSub, IntWalk.iteOmega, IntWalk.toNatUp, reduceCtorEq, Int.reduceLE, Int.reduceLT, Int.reduceToNat, Int.reduceNeg, *])
        all_goals (first | rfl | (congr 1; unfold tokErr; (repeat' split) <;> omega))
      ·
        repeat' (first | (refine (in_ok T _ _ _ _).pure ?_) | simp (config := {contextual := true, maxSteps := 2000000, implicitDefEqProofs := false}) only [go_sem, ↓reduceIte, Nat.reduceEqDiff, Nat.reduceAdd, Nat.reduceMul, Nat.reduceLeDiff, Nat.reduceLT, Nat.reduceSub, IntWalk.iteOmega, IntWalk.toNatUp, reduceCtorEq, Int.reduceLE, Int.reduceLT, Int.reduceToNat, Int.reduceNeg, *])
        all_goals (first | rfl | (congr 1; unfold tokErr; (repeat' split) <;> omega))
    ·
      repeat' (first | (refine (in_ok T _ _ _ _).pure ?_) | simp (config := {contextual := true, maxSteps := 2000000, implicitDefEqProofs := false}) only [go_sem, ↓reduceIte, Nat.reduceEqDiff, Nat.reduceAdd, Nat.reduceMul, Nat.reduceLeDiff, Nat.reduceLT, Nat.reduceSub, IntWalk.iteOmega, IntWalk.toNatUp, reduceCtorEq, Int.reduceLE, Int.reduceLT, Int.reduceToNat, Int.reduceNeg, *])
      all_goals (first | rfl | (congr 1; unfold tokErr; (repeat' split) <;> omega))
  ·
    repeat' (first | (refine (in_ok T _ _ _ _).pure ?_) | simp (config := {contextual := true, maxSteps := 2000000, implicitDefEqProofs := false}) only [go_sem, ↓reduceIte, Nat.reduceEqDiff, Nat.reduceAdd, Nat.reduceMul, Nat.reduceLeDiff, Nat.reduceLT, Nat.reduceSub, IntWalk.iteOmega, IntWalk.toNatUp, reduceCtorEq, Int.reduceLE, Int.reduceLT, Int.reduceToNat, Int.reduceNeg, *])
    all_goals (first | rfl | (congr 1; unfold tokErr; (repeat' split) <;> omega))
end Go.Proofs.YtnpacofabdgcdaaDoor
