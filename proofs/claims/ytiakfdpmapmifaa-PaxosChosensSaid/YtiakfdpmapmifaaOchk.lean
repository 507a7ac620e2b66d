/- OrderChecks holds: order.Check answers what the document says, at every argument; without any condition. -/
import Derived.Test.YtiakfdpmapmifaaBase
namespace Go.Proofs.Ytiakfdpmapmifaa
open Go Go.V
set_option linter.unusedSimpArgs false
set_option linter.unusedVariables false
set_option maxRecDepth 100000
/-- A command's cells. -/
def cmdC (k c s n v : Int) : List Value := [.int .i64 k, .int .i64 c, .int .i64 s, .int .i64 n, .int .i64 v]
/-- What a command's check answers. -/
def cmdErr (k c s n v : Int) : Int :=
  if ¬ (0 ≤ k ∧ k ≤ 3) then 4 else
  if k = 0 then (if c ≠ 0 ∨ s ≠ 0 ∨ n ≠ 0 ∨ v ≠ 0 then 3 else 0) else
  if ¬ (0 ≤ c ∧ c ≤ 7) ∨ ¬ (0 ≤ s ∧ s ≤ 1048576) ∨ ¬ (0 ≤ n ∧ n ≤ 7) ∨ ¬ (0 ≤ v ∧ v ≤ 1073741824) then 2 else
  if 1 < k ∧ v ≠ 0 then 3 else 0
theorem orderCheck_ok (T : World) (h : Hp) (k c s n v : Int) :
    CallsH Try.prog T 52 #[.agg (cmdC k c s n v).toArray] h fun v' h' => v' = .int .i64 (cmdErr k c s n v) ∧ h' = h.push (.cells (cmdC k c s n v).toArray 24) := by
  refine CallsH.of_code' (args := [_]) Try.func52 rfl rfl rfl rfl ?_
  unfold cmdC
  simp (config := {contextual := true, maxSteps := 2000000, implicitDefEqProofs := false}) only [go_sem, ↓reduceIte, Nat.reduceEqDiff, Nat.reduceAdd, Nat.reduceMul, Nat.reduceLeDiff, Nat.reduceLT, Nat.reduceSub, IntWalk.iteOmega, IntWalk.toNatUp, reduceCtorEq, false_and, and_false, false_or, or_false, true_or, or_true, not_true_eq_false, not_false_eq_true, Bool.not_true, Bool.not_false, Bool.and_true, Bool.true_and, Bool.and_false, Bool.false_and, Bool.not_eq_true, beq_self_eq_true, Nat.add_zero, Int.reduceLE, Int.reduceLT, Int.reduceToNat, Int.reduceNeg]
  repeat' (first | (refine (within_ok T _ _ _ _).pure ?_) | simp (config := {contextual := true, maxSteps := 2000000, implicitDefEqProofs := false}) only [go_sem, ↓reduceIte, Nat.reduceEqDiff, Nat.reduceAdd, Nat.reduceMul, Nat.reduceLeDiff, Nat.reduceLT, Nat.reduceSub, IntWalk.iteOmega, IntWalk.toNatUp, reduceCtorEq, false_and, and_false, false_or, or_false, true_or, or_true, not_true_eq_false, not_false_eq_true, Bool.not_true, Bool.not_false, Bool.and_true, Bool.true_and, Bool.and_false, Bool.false_and, Bool.not_eq_true, beq_self_eq_true, Nat.add_zero, Int.reduceLE, Int.reduceLT, Int.reduceToNat, Int.reduceNeg] | split)
  all_goals congr 1
  all_goals (try simp only [Bool.not_eq_true', Bool.and_eq_false_iff, decide_eq_false_iff_not, Bool.not_eq_false', Bool.and_eq_true, decide_eq_true_eq, Bool.not_eq_true, Bool.not_eq_false, Bool.or_eq_true, not_and, not_or, bne_iff_ne, ne_eq] at *)
  all_goals unfold cmdErr
  all_goals (repeat' split)
  all_goals (first | omega | trace_state)
theorem commandFault_ok (T : World) (h : Hp) (k c s n v : Int) :
    CallsH Try.prog T 57 #[.agg (cmdC k c s n v).toArray] h fun v' h' => v' = .int .i64 (cmdErr k c s n v) ∧ h' = h.push (.cells (cmdC k c s n v).toArray 24) := by
  refine CallsH.of_code' (args := [_]) Try.func57 rfl rfl rfl rfl ?_
  unfold cmdC
  by_cases q0 : 0 ≤ k ∧ k ≤ 3
  ·
    by_cases q1 : k = 0
    ·
      by_cases q2 : c = 0
      ·
        by_cases q3 : s = 0
        ·
          by_cases q4 : n = 0
          ·
            by_cases q5 : v = 0
            ·
              repeat' (first | (refine (in_ok T _ _ _ _).pure ?_) | simp (config := {contextual := true, maxSteps := 2000000, implicitDefEqProofs := false}) only [go_sem, ↓reduceIte, Nat.reduceEqDiff, Nat.reduceAdd, Nat.reduceMul, Nat.reduceLeDiff, Nat.reduceLT, Nat.reduceSub, IntWalk.iteOmega, IntWalk.toNatUp, reduceCtorEq, false_and, and_false, false_or, or_false, true_or, or_true, not_true_eq_false, not_false_eq_true, Bool.not_true, Bool.not_false, Bool.and_true, Bool.true_and, Bool.and_false, Bool.false_and, Bool.not_eq_true, beq_self_eq_true, Nat.add_zero, Int.reduceLE, Int.reduceLT, Int.reduceToNat, Int.reduceNeg, *])
              all_goals (first | rfl | (congr 1; unfold cmdErr; (repeat' split) <;> omega))
            ·
              repeat' (first | (refine (in_ok T _ _ _ _).pure ?_) | simp (config := {contextual := true, maxSteps := 2000000, implicitDefEqProofs := false}) only [go_sem, ↓reduceIte, Nat.reduceEqDiff, Nat.reduceAdd, Nat.reduceMul, Nat.reduceLeDiff, Nat.reduceLT, Nat.reduceSub, IntWalk.iteOmega, IntWalk.toNatUp, reduceCtorEq, false_and, and_false, false_or, or_false, true_or, or_true, not_true_eq_false, not_false_eq_true, Bool.not_true, Bool.not_false, Bool.and_true, Bool.true_and, Bool.and_false, Bool.false_and, Bool.not_eq_true, beq_self_eq_true, Nat.add_zero, Int.reduceLE, Int.reduceLT, Int.reduceToNat, Int.reduceNeg, *])
              all_goals (first | rfl | (congr 1; unfold cmdErr; (repeat' split) <;> omega))
          ·
            repeat' (first | (refine (in_ok T _ _ _ _).pure ?_) | simp (config := {contextual := true, maxSteps := 2000000, implicitDefEqProofs := false}) only [go_sem, ↓reduceIte, Nat.reduceEqDiff, Nat.reduceAdd, Nat.reduceMul, Nat.reduceLeDiff, Nat.reduceLT, Nat.reduceSub, IntWalk.iteOmega, IntWalk.toNatUp, reduceCtorEq, false_and, and_false, false_or, or_false, true_or, or_true, not_true_eq_false, not_false_eq_true, Bool.not_true, Bool.not_false, Bool.and_true, Bool.true_and, Bool.and_false, Bool.false_and, Bool.not_eq_true, beq_self_eq_true, Nat.add_zero, Int.reduceLE, Int.reduceLT, Int.reduceToNat, Int.reduceNeg, *])
            all_goals (first | rfl | (congr 1; unfold cmdErr; (repeat' split) <;> omega))
        ·
          repeat' (first | (refine (in_ok T _ _ _ _).pure ?_) | simp (config := {contextual := true, maxSteps := 2000000, implicitDefEqProofs := false}) only [go_sem, ↓reduceIte, Nat.reduceEqDiff, Nat.reduceAdd, Nat.reduceMul, Nat.reduceLeDiff, Nat.reduceLT, Nat.reduceSub, IntWalk.iteOmega, IntWalk.toNatUp, reduceCtorEq, false_and, and_false, false_or, or_false, true_or, or_true, not_true_eq_false, not_false_eq_true, Bool.not_true, Bool.not_false, Bool.and_true, Bool.true_and, Bool.and_false, Bool.false_and, Bool.not_eq_true, beq_self_eq_true, Nat.add_zero, Int.reduceLE, Int.reduceLT, Int.reduceToNat, Int.reduceNeg, *])
          all_goals (first | rfl | (congr 1; unfold cmdErr; (repeat' split) <;> omega))
      ·
        repeat' (first | (refine (in_ok T _ _ _ _).pure ?_) | simp (config := {contextual := true, maxSteps := 2000000, implicitDefEqProofs := false}) only [go_sem, ↓reduceIte, Nat.reduceEqDiff, Nat.reduceAdd, Nat.reduceMul, Nat.reduceLeDiff, Nat.reduceLT, Nat.reduceSub, IntWalk.iteOmega, IntWalk.toNatUp, reduceCtorEq, false_and, and_false, false_or, or_false, true_or, or_true, not_true_eq_false, not_false_eq_true, Bool.not_true, Bool.not_false, Bool.and_true, Bool.true_and, Bool.and_false, Bool.false_and, Bool.not_eq_true, beq_self_eq_true, Nat.add_zero, Int.reduceLE, Int.reduceLT, Int.reduceToNat, Int.reduceNeg, *])
        all_goals (first | rfl | (congr 1; unfold cmdErr; (repeat' split) <;> omega))
    ·
      by_cases q2 : 0 ≤ c ∧ c ≤ 7
      ·
        by_cases q3 : 0 ≤ s ∧ s ≤ 1048576
        ·
          by_cases q4 : 0 ≤ n ∧ n ≤ 7
          ·
            by_cases q5 : 0 ≤ v ∧ v ≤ 1073741824
            ·
              by_cases q6 : 1 < k
              ·
                by_cases q7 : v = 0
                ·
                  repeat' (first | (refine (in_ok T _ _ _ _).pure ?_) | simp (config := {contextual := true, maxSteps := 2000000, implicitDefEqProofs := false}) only [go_sem, ↓reduceIte, Nat.reduceEqDiff, Nat.reduceAdd, Nat.reduceMul, Nat.reduceLeDiff, Nat.reduceLT, Nat.reduceSub, IntWalk.iteOmega, IntWalk.toNatUp, reduceCtorEq, false_and, and_false, false_or, or_false, true_or, or_true, not_true_eq_false, not_false_eq_true, Bool.not_true, Bool.not_false, Bool.and_true, Bool.true_and, Bool.and_false, Bool.false_and, Bool.not_eq_true, beq_self_eq_true, Nat.add_zero, Int.reduceLE, Int.reduceLT, Int.reduceToNat, Int.reduceNeg, *])
                  all_goals (first | rfl | (congr 1; unfold cmdErr; (repeat' split) <;> omega))
                ·
                  repeat' (first | (refine (in_ok T _ _ _ _).pure ?_) | simp (config := {contextual := true, maxSteps := 2000000, implicitDefEqProofs := false}) only [go_sem, ↓reduceIte, Nat.reduceEqDiff, Nat.reduceAdd, Nat.reduceMul, Nat.reduceLeDiff, Nat.reduceLT, Nat.reduceSub, IntWalk.iteOmega, IntWalk.toNatUp, reduceCtorEq, false_and, and_false, false_or, or_false, true_or, or_true, not_true_eq_false, not_false_eq_true, Bool.not_true, Bool.not_false, Bool.and_true, Bool.true_and, Bool.and_false, Bool.false_and, Bool.not_eq_true, beq_self_eq_true, Nat.add_zero, Int.reduceLE, Int.reduceLT, Int.reduceToNat, Int.reduceNeg, *])
                  all_goals (first | rfl | (congr 1; unfold cmdErr; (repeat' split) <;> omega))
              ·
                repeat' (first | (refine (in_ok T _ _ _ _).pure ?_) | simp (config := {contextual := true, maxSteps := 2000000, implicitDefEqProofs := false}) only [go_sem, ↓reduceIte, Nat.reduceEqDiff, Nat.reduceAdd, Nat.reduceMul, Nat.reduceLeDiff, Nat.reduceLT, Nat.reduceSub, IntWalk.iteOmega, IntWalk.toNatUp, reduceCtorEq, false_and, and_false, false_or, or_false, true_or, or_true, not_true_eq_false, not_false_eq_true, Bool.not_true, Bool.not_false, Bool.and_true, Bool.true_and, Bool.and_false, Bool.false_and, Bool.not_eq_true, beq_self_eq_true, Nat.add_zero, Int.reduceLE, Int.reduceLT, Int.reduceToNat, Int.reduceNeg, *])
                all_goals (first | rfl | (congr 1; unfold cmdErr; (repeat' split) <;> omega))
            ·
              repeat' (first | (refine (in_ok T _ _ _ _).pure ?_) | simp (config := {contextual := true, maxSteps := 2000000, implicitDefEqProofs := false}) only [go_sem, ↓reduceIte, Nat.reduceEqDiff, Nat.reduceAdd, Nat.reduceMul, Nat.reduceLeDiff, Nat.reduceLT, Nat.reduceSub, IntWalk.iteOmega, IntWalk.toNatUp, reduceCtorEq, false_and, and_false, false_or, or_false, true_or, or_true, not_true_eq_false, not_false_eq_true, Bool.not_true, Bool.not_false, Bool.and_true, Bool.true_and, Bool.and_false, Bool.false_and, Bool.not_eq_true, beq_self_eq_true, Nat.add_zero, Int.reduceLE, Int.reduceLT, Int.reduceToNat, Int.reduceNeg, *])
              all_goals (first | rfl | (congr 1; unfold cmdErr; (repeat' split) <;> omega))
          ·
            repeat' (first | (refine (in_ok T _ _ _ _).pure ?_) | simp (config := {contextual := true, maxSteps := 2000000, implicitDefEqProofs := false}) only [go_sem, ↓reduceIte, Nat.reduceEqDiff, Nat.reduceAdd, Nat.reduceMul, Nat.reduceLeDiff, Nat.reduceLT, Nat.reduceSub, IntWalk.iteOmega, IntWalk.toNatUp, reduceCtorEq, false_and, and_false, false_or, or_false, true_or, or_true, not_true_eq_false, not_false_eq_true, Bool.not_true, Bool.not_false, Bool.and_true, Bool.true_and, Bool.and_false, Bool.false_and, Bool.not_eq_true, beq_self_eq_true, Nat.add_zero, Int.reduceLE, Int.reduceLT, Int.reduceToNat, Int.reduceNeg, *])
            all_goals (first | rfl | (congr 1; unfold cmdErr; (repeat' split) <;> omega))
        ·
          repeat' (first | (refine (in_ok T _ _ _ _).pure ?_) | simp (config := {contextual := true, maxSteps := 2000000, implicitDefEqProofs := false}) only [go_sem, ↓reduceIte, Nat.reduceEqDiff, Nat.reduceAdd, Nat.reduceMul, Nat.reduceLeDiff, Nat.reduceLT, Nat.reduceSub, IntWalk.iteOmega, IntWalk.toNatUp, reduceCtorEq, false_and, and_false, false_or, or_false, true_or, or_true, not_true_eq_false, not_false_eq_true, Bool.not_true, Bool.not_false, Bool.and_true, Bool.true_and, Bool.and_false, Bool.false_and, Bool.not_eq_true, beq_self_eq_true, Nat.add_zero, Int.reduceLE, Int.reduceLT, Int.reduceToNat, Int.reduceNeg, *])
          all_goals (first | rfl | (congr 1; unfold cmdErr; (repeat' split) <;> omega))
      ·
        repeat' (first | (refine (in_ok T _ _ _ _).pure ?_) | simp (config := {contextual := true, maxSteps := 2000000, implicitDefEqProofs := false}) only [go_sem, ↓reduceIte, Nat.reduceEqDiff, Nat.reduceAdd, Nat.reduceMul, Nat.reduceLeDiff, Nat.reduceLT, Nat.reduceSub, IntWalk.iteOmega, IntWalk.toNatUp, reduceCtorEq, false_and, and_false, false_or, or_false, true_or, or_true, not_true_eq_false, not_false_eq_true, Bool.not_true, Bool.not_false, Bool.and_true, Bool.true_and, Bool.and_false, Bool.false_and, Bool.not_eq_true, beq_self_eq_true, Nat.add_zero, Int.reduceLE, Int.reduceLT, Int.reduceToNat, Int.reduceNeg, *])
        all_goals (first | rfl | (congr 1; unfold cmdErr; (repeat' split) <;> omega))
  ·
    repeat' (first | (refine (in_ok T _ _ _ _).pure ?_) | simp (config := {contextual := true, maxSteps := 2000000, implicitDefEqProofs := false}) only [go_sem, ↓reduceIte, Nat.reduceEqDiff, Nat.reduceAdd, Nat.reduceMul, Nat.reduceLeDiff, Nat.reduceLT, Nat.reduceSub, IntWalk.iteOmega, IntWalk.toNatUp, reduceCtorEq, false_and, and_false, false_or, or_false, true_or, or_true, not_true_eq_false, not_false_eq_true, Bool.not_true, Bool.not_false, Bool.and_true, Bool.true_and, Bool.and_false, Bool.false_and, Bool.not_eq_true, beq_self_eq_true, Nat.add_zero, Int.reduceLE, Int.reduceLT, Int.reduceToNat, Int.reduceNeg, *])
    all_goals (first | rfl | (congr 1; unfold cmdErr; (repeat' split) <;> omega))
end Go.Proofs.Ytiakfdpmapmifaa
