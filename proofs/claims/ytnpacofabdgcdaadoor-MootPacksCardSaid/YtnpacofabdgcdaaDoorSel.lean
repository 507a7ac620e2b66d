/- What is sealed and opened, on both sides; no condition but those in the statements. -/
import Derived.Test.YtnpacofabdgcdaaDoorSea
import Derived.Test.YtnpacofabdgcdaaDoorSame
namespace Go.Proofs.YtnpacofabdgcdaaDoor
open Go Go.V
set_option linter.unusedSimpArgs false
set_option linter.unusedVariables false
set_option maxRecDepth 100000
def sealErr (k n w m most : Nat) : Int := if k ≠ 32 ∨ n ≠ 12 ∨ 256 < w ∨ most < m then 1 else 0
theorem sealErr_zero {k n w m most : Nat} (e : sealErr k n w m most = 0) : k = 32 ∧ n = 12 ∧ w ≤ 256 ∧ m ≤ most := by
  unfold sealErr at e
  split at e
  · cases e
  · omega
theorem sealErr_one {k n w m most : Nat} (e : ¬ sealErr k n w m most = 0) : sealErr k n w m most = 1 := by
  unfold sealErr at e ⊢
  split
  · rfl
  · rename_i h; rw [if_neg h] at e; exact (e rfl).elim
theorem sealCheck_ok (T : World) (h : Hp) (p q r s : Option Addr) (k n w m c1 c2 c3 c4 most : Nat) :
    CallsH Tryd.prog T 181 #[.slice p k c1, .slice q n c2, .slice r w c3, .slice s m c4, .int .i64 most] h fun v' h' => v' = .int .i64 (sealErr k n w m most) ∧ h' = h := by
  refine CallsH.of_code' (args := [_, _, _, _, _]) Tryd.func181 rfl rfl rfl rfl ?_
  unfold sealErr
  by_cases q0 : k = 32
  ·
    by_cases q1 : n = 12
    ·
      by_cases q2 : w ≤ 256
      ·
        by_cases q3 : m ≤ most
        ·
          have c0 : (k : Int) = 32 ∨ ¬ (k : Int) = 32 := by omega
          have c1 : (n : Int) = 12 ∨ ¬ (n : Int) = 12 := by omega
          have c2 : 256 < (w : Int) ∨ ¬ 256 < (w : Int) := by omega
          have c3 : (most : Int) < (m : Int) ∨ ¬ (most : Int) < (m : Int) := by omega
          rcases c0 with c0 | c0 <;> rcases c1 with c1 | c1 <;> rcases c2 with c2 | c2 <;> rcases c3 with c3 | c3 <;> first
            | (exfalso; omega)
            | (rw [if_neg (by omega)]; simp (config := {maxSteps := 2000000, implicitDefEqProofs := false}) only [go_sem, ↓reduceIte, Nat.reduceEqDiff, Nat.reduceAdd, Nat.reduceMul, Nat.reduceLeDiff, Nat.reduceLT, Nat.reduceSub, IntWalk.iteOmega, IntWalk.toNatUp, reduceCtorEq, false_and, and_false, false_or, or_false, true_or, or_true, not_true_eq_false, not_false_eq_true, Bool.not_true, Bool.not_false, Bool.and_true, Bool.true_and, Bool.and_false, Bool.false_and, Bool.not_eq_true, beq_self_eq_true, Nat.add_zero, Int.reduceLE, Int.reduceLT, Int.reduceToNat, Int.reduceNeg, c0, c1, c2, c3])
            | (rw [if_pos (by omega)]; simp (config := {maxSteps := 2000000, implicitDefEqProofs := false}) only [go_sem, ↓reduceIte, Nat.reduceEqDiff, Nat.reduceAdd, Nat.reduceMul, Nat.reduceLeDiff, Nat.reduceLT, Nat.reduceSub, IntWalk.iteOmega, IntWalk.toNatUp, reduceCtorEq, false_and, and_false, false_or, or_false, true_or, or_true, not_true_eq_false, not_false_eq_true, Bool.not_true, Bool.not_false, Bool.and_true, Bool.true_and, Bool.and_false, Bool.false_and, Bool.not_eq_true, beq_self_eq_true, Nat.add_zero, Int.reduceLE, Int.reduceLT, Int.reduceToNat, Int.reduceNeg, c0, c1, c2, c3])
        ·
          have c0 : (k : Int) = 32 ∨ ¬ (k : Int) = 32 := by omega
          have c1 : (n : Int) = 12 ∨ ¬ (n : Int) = 12 := by omega
          have c2 : 256 < (w : Int) ∨ ¬ 256 < (w : Int) := by omega
          have c3 : (most : Int) < (m : Int) ∨ ¬ (most : Int) < (m : Int) := by omega
          rcases c0 with c0 | c0 <;> rcases c1 with c1 | c1 <;> rcases c2 with c2 | c2 <;> rcases c3 with c3 | c3 <;> first
            | (exfalso; omega)
            | (rw [if_neg (by omega)]; simp (config := {maxSteps := 2000000, implicitDefEqProofs := false}) only [go_sem, ↓reduceIte, Nat.reduceEqDiff, Nat.reduceAdd, Nat.reduceMul, Nat.reduceLeDiff, Nat.reduceLT, Nat.reduceSub, IntWalk.iteOmega, IntWalk.toNatUp, reduceCtorEq, false_and, and_false, false_or, or_false, true_or, or_true, not_true_eq_false, not_false_eq_true, Bool.not_true, Bool.not_false, Bool.and_true, Bool.true_and, Bool.and_false, Bool.false_and, Bool.not_eq_true, beq_self_eq_true, Nat.add_zero, Int.reduceLE, Int.reduceLT, Int.reduceToNat, Int.reduceNeg, c0, c1, c2, c3])
            | (rw [if_pos (by omega)]; simp (config := {maxSteps := 2000000, implicitDefEqProofs := false}) only [go_sem, ↓reduceIte, Nat.reduceEqDiff, Nat.reduceAdd, Nat.reduceMul, Nat.reduceLeDiff, Nat.reduceLT, Nat.reduceSub, IntWalk.iteOmega, IntWalk.toNatUp, reduceCtorEq, false_and, and_false, false_or, or_false, true_or, or_true, not_true_eq_false, not_false_eq_true, Bool.not_true, Bool.not_false, Bool.and_true, Bool.true_and, Bool.and_false, Bool.false_and, Bool.not_eq_true, beq_self_eq_true, Nat.add_zero, Int.reduceLE, Int.reduceLT, Int.reduceToNat, Int.reduceNeg, c0, c1, c2, c3])
      ·
        have c0 : (k : Int) = 32 ∨ ¬ (k : Int) = 32 := by omega
        have c1 : (n : Int) = 12 ∨ ¬ (n : Int) = 12 := by omega
        have c2 : 256 < (w : Int) ∨ ¬ 256 < (w : Int) := by omega
        have c3 : (most : Int) < (m : Int) ∨ ¬ (most : Int) < (m : Int) := by omega
        rcases c0 with c0 | c0 <;> rcases c1 with c1 | c1 <;> rcases c2 with c2 | c2 <;> rcases c3 with c3 | c3 <;> first
          | (exfalso; omega)
          | (rw [if_neg (by omega)]; simp (config := {maxSteps := 2000000, implicitDefEqProofs := false}) only [go_sem, ↓reduceIte, Nat.reduceEqDiff, Nat.reduceAdd, Nat.reduceMul, Nat.reduceLeDiff, Nat.reduceLT, Nat.reduceSub, IntWalk.iteOmega, IntWalk.toNatUp, reduceCtorEq, false_and, and_false, false_or, or_false, true_or, or_true, not_true_eq_false, not_false_eq_true, Bool.not_true, Bool.not_false, Bool.and_true, Bool.true_and, Bool.and_false, Bool.false_and, Bool.not_eq_true, beq_self_eq_true, Nat.add_zero, Int.reduceLE, Int.reduceLT, Int.reduceToNat, Int.reduceNeg, c0, c1, c2, c3])
          | (rw [if_pos (by omega)]; simp (config := {maxSteps := 2000000, implicitDefEqProofs := false}) only [go_sem, ↓reduceIte, Nat.reduceEqDiff, Nat.reduceAdd, Nat.reduceMul, Nat.reduceLeDiff, Nat.reduceLT, Nat.reduceSub, IntWalk.iteOmega, IntWalk.toNatUp, reduceCtorEq, false_and, and_false, false_or, or_false, true_or, or_true, not_true_eq_false, not_false_eq_true, Bool.not_true, Bool.not_false, Bool.and_true, Bool.true_and, Bool.and_false, Bool.false_and, Bool.not_eq_true, beq_self_eq_true, Nat.add_zero, Int.reduceLE, Int.reduceLT, Int.reduceToNat, Int.reduceNeg, c0, c1, c2, c3])
    ·
      have c0 : (k : Int) = 32 ∨ ¬ (k : Int) = 32 := by omega
      have c1 : (n : Int) = 12 ∨ ¬ (n : Int) = 12 := by omega
      have c2 : 256 < (w : Int) ∨ ¬ 256 < (w : Int) := by omega
      have c3 : (most : Int) < (m : Int) ∨ ¬ (most : Int) < (m : Int) := by omega
      rcases c0 with c0 | c0 <;> rcases c1 with c1 | c1 <;> rcases c2 with c2 | c2 <;> rcases c3 with c3 | c3 <;> first
        | (exfalso; omega)
        | (rw [if_neg (by omega)]; simp (config := {maxSteps := 2000000, implicitDefEqProofs := false}) only [go_sem, ↓reduceIte, Nat.reduceEqDiff, Nat.reduceAdd, Nat.reduceMul, Nat.reduceLeDiff, Nat.reduceLT, Nat.reduceSub, IntWalk.iteOmega, IntWalk.toNatUp, reduceCtorEq, false_and, and_false, false_or, or_false, true_or, or_true, not_true_eq_false, not_false_eq_true, Bool.not_true, Bool.not_false, Bool.and_true, Bool.true_and, Bool.and_false, Bool.false_and, Bool.not_eq_true, beq_self_eq_true, Nat.add_zero, Int.reduceLE, Int.reduceLT, Int.reduceToNat, Int.reduceNeg, c0, c1, c2, c3])
        | (rw [if_pos (by omega)]; simp (config := {maxSteps := 2000000, implicitDefEqProofs := false}) only [go_sem, ↓reduceIte, Nat.reduceEqDiff, Nat.reduceAdd, Nat.reduceMul, Nat.reduceLeDiff, Nat.reduceLT, Nat.reduceSub, IntWalk.iteOmega, IntWalk.toNatUp, reduceCtorEq, false_and, and_false, false_or, or_false, true_or, or_true, not_true_eq_false, not_false_eq_true, Bool.not_true, Bool.not_false, Bool.and_true, Bool.true_and, Bool.and_false, Bool.false_and, Bool.not_eq_true, beq_self_eq_true, Nat.add_zero, Int.reduceLE, Int.reduceLT, Int.reduceToNat, Int.reduceNeg, c0, c1, c2, c3])
  ·
    have c0 : (k : Int) = 32 ∨ ¬ (k : Int) = 32 := by omega
    have c1 : (n : Int) = 12 ∨ ¬ (n : Int) = 12 := by omega
    have c2 : 256 < (w : Int) ∨ ¬ 256 < (w : Int) := by omega
    have c3 : (most : Int) < (m : Int) ∨ ¬ (most : Int) < (m : Int) := by omega
    rcases c0 with c0 | c0 <;> rcases c1 with c1 | c1 <;> rcases c2 with c2 | c2 <;> rcases c3 with c3 | c3 <;> first
      | (exfalso; omega)
      | (rw [if_neg (by omega)]; simp (config := {maxSteps := 2000000, implicitDefEqProofs := false}) only [go_sem, ↓reduceIte, Nat.reduceEqDiff, Nat.reduceAdd, Nat.reduceMul, Nat.reduceLeDiff, Nat.reduceLT, Nat.reduceSub, IntWalk.iteOmega, IntWalk.toNatUp, reduceCtorEq, false_and, and_false, false_or, or_false, true_or, or_true, not_true_eq_false, not_false_eq_true, Bool.not_true, Bool.not_false, Bool.and_true, Bool.true_and, Bool.and_false, Bool.false_and, Bool.not_eq_true, beq_self_eq_true, Nat.add_zero, Int.reduceLE, Int.reduceLT, Int.reduceToNat, Int.reduceNeg, c0, c1, c2, c3])
      | (rw [if_pos (by omega)]; simp (config := {maxSteps := 2000000, implicitDefEqProofs := false}) only [go_sem, ↓reduceIte, Nat.reduceEqDiff, Nat.reduceAdd, Nat.reduceMul, Nat.reduceLeDiff, Nat.reduceLT, Nat.reduceSub, IntWalk.iteOmega, IntWalk.toNatUp, reduceCtorEq, false_and, and_false, false_or, or_false, true_or, or_true, not_true_eq_false, not_false_eq_true, Bool.not_true, Bool.not_false, Bool.and_true, Bool.true_and, Bool.and_false, Bool.false_and, Bool.not_eq_true, beq_self_eq_true, Nat.add_zero, Int.reduceLE, Int.reduceLT, Int.reduceToNat, Int.reduceNeg, c0, c1, c2, c3])
theorem sealFault_ok (T : World) (h : Hp) (p q r : Option Addr) (k n w m c1 c2 c3 most : Nat) :
    CallsH Tryd.prog T 184 #[.slice p k c1, .slice q n c2, .slice r w c3, .int .i64 m, .int .i64 most] h fun v' h' => v' = .int .i64 (sealErr k n w m most) ∧ h' = h := by
  refine CallsH.of_code' (args := [_, _, _, _, _]) Tryd.func184 rfl rfl rfl rfl ?_
  unfold sealErr
  by_cases q0 : k = 32
  ·
    by_cases q1 : n = 12
    ·
      by_cases q2 : w ≤ 256
      ·
        by_cases q3 : m ≤ most
        ·
          have c0 : (k : Int) = 32 ∨ ¬ (k : Int) = 32 := by omega
          have c1 : (n : Int) = 12 ∨ ¬ (n : Int) = 12 := by omega
          have c2 : 256 < (w : Int) ∨ ¬ 256 < (w : Int) := by omega
          have c3 : (most : Int) < (m : Int) ∨ ¬ (most : Int) < (m : Int) := by omega
          rcases c0 with c0 | c0 <;> rcases c1 with c1 | c1 <;> rcases c2 with c2 | c2 <;> rcases c3 with c3 | c3 <;> first
            | (exfalso; omega)
            | (rw [if_neg (by omega)]; simp (config := {maxSteps := 2000000, implicitDefEqProofs := false}) only [go_sem, ↓reduceIte, Nat.reduceEqDiff, Nat.reduceAdd, Nat.reduceMul, Nat.reduceLeDiff, Nat.reduceLT, Nat.reduceSub, IntWalk.iteOmega, IntWalk.toNatUp, reduceCtorEq, false_and, and_false, false_or, or_false, true_or, or_true, not_true_eq_false, not_false_eq_true, Bool.not_true, Bool.not_false, Bool.and_true, Bool.true_and, Bool.and_false, Bool.false_and, Bool.not_eq_true, beq_self_eq_true, Nat.add_zero, Int.reduceLE, Int.reduceLT, Int.reduceToNat, Int.reduceNeg, c0, c1, c2, c3])
            | (rw [if_pos (by omega)]; simp (config := {maxSteps := 2000000, implicitDefEqProofs := false}) only [go_sem, ↓reduceIte, Nat.reduceEqDiff, Nat.reduceAdd, Nat.reduceMul, Nat.reduceLeDiff, Nat.reduceLT, Nat.reduceSub, IntWalk.iteOmega, IntWalk.toNatUp, reduceCtorEq, false_and, and_false, false_or, or_false, true_or, or_true, not_true_eq_false, not_false_eq_true, Bool.not_true, Bool.not_false, Bool.and_true, Bool.true_and, Bool.and_false, Bool.false_and, Bool.not_eq_true, beq_self_eq_true, Nat.add_zero, Int.reduceLE, Int.reduceLT, Int.reduceToNat, Int.reduceNeg, c0, c1, c2, c3])
        ·
          have c0 : (k : Int) = 32 ∨ ¬ (k : Int) = 32 := by omega
          have c1 : (n : Int) = 12 ∨ ¬ (n : Int) = 12 := by omega
          have c2 : 256 < (w : Int) ∨ ¬ 256 < (w : Int) := by omega
          have c3 : (most : Int) < (m : Int) ∨ ¬ (most : Int) < (m : Int) := by omega
          rcases c0 with c0 | c0 <;> rcases c1 with c1 | c1 <;> rcases c2 with c2 | c2 <;> rcases c3 with c3 | c3 <;> first
            | (exfalso; omega)
            | (rw [if_neg (by omega)]; simp (config := {maxSteps := 2000000, implicitDefEqProofs := false}) only [go_sem, ↓reduceIte, Nat.reduceEqDiff, Nat.reduceAdd, Nat.reduceMul, Nat.reduceLeDiff, Nat.reduceLT, Nat.reduceSub, IntWalk.iteOmega, IntWalk.toNatUp, reduceCtorEq, false_and, and_false, false_or, or_false, true_or, or_true, not_true_eq_false, not_false_eq_true, Bool.not_true, Bool.not_false, Bool.and_true, Bool.true_and, Bool.and_false, Bool.false_and, Bool.not_eq_true, beq_self_eq_true, Nat.add_zero, Int.reduceLE, Int.reduceLT, Int.reduceToNat, Int.reduceNeg, c0, c1, c2, c3])
            | (rw [if_pos (by omega)]; simp (config := {maxSteps := 2000000, implicitDefEqProofs := false}) only [go_sem, ↓reduceIte, Nat.reduceEqDiff, Nat.reduceAdd, Nat.reduceMul, Nat.reduceLeDiff, Nat.reduceLT, Nat.reduceSub, IntWalk.iteOmega, IntWalk.toNatUp, reduceCtorEq, false_and, and_false, false_or, or_false, true_or, or_true, not_true_eq_false, not_false_eq_true, Bool.not_true, Bool.not_false, Bool.and_true, Bool.true_and, Bool.and_false, Bool.false_and, Bool.not_eq_true, beq_self_eq_true, Nat.add_zero, Int.reduceLE, Int.reduceLT, Int.reduceToNat, Int.reduceNeg, c0, c1, c2, c3])
      ·
        have c0 : (k : Int) = 32 ∨ ¬ (k : Int) = 32 := by omega
        have c1 : (n : Int) = 12 ∨ ¬ (n : Int) = 12 := by omega
        have c2 : 256 < (w : Int) ∨ ¬ 256 < (w : Int) := by omega
        have c3 : (most : Int) < (m : Int) ∨ ¬ (most : Int) < (m : Int) := by omega
        rcases c0 with c0 | c0 <;> rcases c1 with c1 | c1 <;> rcases c2 with c2 | c2 <;> rcases c3 with c3 | c3 <;> first
          | (exfalso; omega)
          | (rw [if_neg (by omega)]; simp (config := {maxSteps := 2000000, implicitDefEqProofs := false}) only [go_sem, ↓reduceIte, Nat.reduceEqDiff, Nat.reduceAdd, Nat.reduceMul, Nat.reduceLeDiff, Nat.reduceLT, Nat.reduceSub, IntWalk.iteOmega, IntWalk.toNatUp, reduceCtorEq, false_and, and_false, false_or, or_false, true_or, or_true, not_true_eq_false, not_false_eq_true, Bool.not_true, Bool.not_false, Bool.and_true, Bool.true_and, Bool.and_false, Bool.false_and, Bool.not_eq_true, beq_self_eq_true, Nat.add_zero, Int.reduceLE, Int.reduceLT, Int.reduceToNat, Int.reduceNeg, c0, c1, c2, c3])
          | (rw [if_pos (by omega)]; simp (config := {maxSteps := 2000000, implicitDefEqProofs := false}) only [go_sem, ↓reduceIte, Nat.reduceEqDiff, Nat.reduceAdd, Nat.reduceMul, Nat.reduceLeDiff, Nat.reduceLT, Nat.reduceSub, IntWalk.iteOmega, IntWalk.toNatUp, reduceCtorEq, false_and, and_false, false_or, or_false, true_or, or_true, not_true_eq_false, not_false_eq_true, Bool.not_true, Bool.not_false, Bool.and_true, Bool.true_and, Bool.and_false, Bool.false_and, Bool.not_eq_true, beq_self_eq_true, Nat.add_zero, Int.reduceLE, Int.reduceLT, Int.reduceToNat, Int.reduceNeg, c0, c1, c2, c3])
    ·
      have c0 : (k : Int) = 32 ∨ ¬ (k : Int) = 32 := by omega
      have c1 : (n : Int) = 12 ∨ ¬ (n : Int) = 12 := by omega
      have c2 : 256 < (w : Int) ∨ ¬ 256 < (w : Int) := by omega
      have c3 : (most : Int) < (m : Int) ∨ ¬ (most : Int) < (m : Int) := by omega
      rcases c0 with c0 | c0 <;> rcases c1 with c1 | c1 <;> rcases c2 with c2 | c2 <;> rcases c3 with c3 | c3 <;> first
        | (exfalso; omega)
        | (rw [if_neg (by omega)]; simp (config := {maxSteps := 2000000, implicitDefEqProofs := false}) only [go_sem, ↓reduceIte, Nat.reduceEqDiff, Nat.reduceAdd, Nat.reduceMul, Nat.reduceLeDiff, Nat.reduceLT, Nat.reduceSub, IntWalk.iteOmega, IntWalk.toNatUp, reduceCtorEq, false_and, and_false, false_or, or_false, true_or, or_true, not_true_eq_false, not_false_eq_true, Bool.not_true, Bool.not_false, Bool.and_true, Bool.true_and, Bool.and_false, Bool.false_and, Bool.not_eq_true, beq_self_eq_true, Nat.add_zero, Int.reduceLE, Int.reduceLT, Int.reduceToNat, Int.reduceNeg, c0, c1, c2, c3])
        | (rw [if_pos (by omega)]; simp (config := {maxSteps := 2000000, implicitDefEqProofs := false}) only [go_sem, ↓reduceIte, Nat.reduceEqDiff, Nat.reduceAdd, Nat.reduceMul, Nat.reduceLeDiff, Nat.reduceLT, Nat.reduceSub, IntWalk.iteOmega, IntWalk.toNatUp, reduceCtorEq, false_and, and_false, false_or, or_false, true_or, or_true, not_true_eq_false, not_false_eq_true, Bool.not_true, Bool.not_false, Bool.and_true, Bool.true_and, Bool.and_false, Bool.false_and, Bool.not_eq_true, beq_self_eq_true, Nat.add_zero, Int.reduceLE, Int.reduceLT, Int.reduceToNat, Int.reduceNeg, c0, c1, c2, c3])
  ·
    have c0 : (k : Int) = 32 ∨ ¬ (k : Int) = 32 := by omega
    have c1 : (n : Int) = 12 ∨ ¬ (n : Int) = 12 := by omega
    have c2 : 256 < (w : Int) ∨ ¬ 256 < (w : Int) := by omega
    have c3 : (most : Int) < (m : Int) ∨ ¬ (most : Int) < (m : Int) := by omega
    rcases c0 with c0 | c0 <;> rcases c1 with c1 | c1 <;> rcases c2 with c2 | c2 <;> rcases c3 with c3 | c3 <;> first
      | (exfalso; omega)
      | (rw [if_neg (by omega)]; simp (config := {maxSteps := 2000000, implicitDefEqProofs := false}) only [go_sem, ↓reduceIte, Nat.reduceEqDiff, Nat.reduceAdd, Nat.reduceMul, Nat.reduceLeDiff, Nat.reduceLT, Nat.reduceSub, IntWalk.iteOmega, IntWalk.toNatUp, reduceCtorEq, false_and, and_false, false_or, or_false, true_or, or_true, not_true_eq_false, not_false_eq_true, Bool.not_true, Bool.not_false, Bool.and_true, Bool.true_and, Bool.and_false, Bool.false_and, Bool.not_eq_true, beq_self_eq_true, Nat.add_zero, Int.reduceLE, Int.reduceLT, Int.reduceToNat, Int.reduceNeg, c0, c1, c2, c3])
      | (rw [if_pos (by omega)]; simp (config := {maxSteps := 2000000, implicitDefEqProofs := false}) only [go_sem, ↓reduceIte, Nat.reduceEqDiff, Nat.reduceAdd, Nat.reduceMul, Nat.reduceLeDiff, Nat.reduceLT, Nat.reduceSub, IntWalk.iteOmega, IntWalk.toNatUp, reduceCtorEq, false_and, and_false, false_or, or_false, true_or, or_true, not_true_eq_false, not_false_eq_true, Bool.not_true, Bool.not_false, Bool.and_true, Bool.true_and, Bool.and_false, Bool.false_and, Bool.not_eq_true, beq_self_eq_true, Nat.add_zero, Int.reduceLE, Int.reduceLT, Int.reduceToNat, Int.reduceNeg, c0, c1, c2, c3])
def sealS (key nonce known plain : List Nat) : List Nat := mixB key 1 nonce plain ++ sealTagS key nonce known (mixB key 1 nonce plain)
def SealRes (B : Nat) (h' : Hp) (v' : Value) (key nonce known plain : List Nat) : Prop := ∃ w, v' = .tuple [w, .int .i64 (sealErr key.length nonce.length known.length plain.length 2000)].toArray ∧ OBs B 5 h' w (if sealErr key.length nonce.length known.length plain.length 2000 = 0 then sealS key nonce known plain else [])
theorem mixErr_fine {key nonce : List Nat} {k : Int} {n : Nat} (hk : key.length = 32) (hn : nonce.length = 12) (h0 : 0 ≤ k) (h1 : k ≤ 1073741824) (hm : n ≤ 2000) : mixErr key k nonce n = 0 := by
  unfold mixErr
  rw [blockErr_fine hk hn h0 h1, if_neg (by simp), if_neg (by omega)]
theorem tagL_le (key data : List Nat) : (tagL key data).length ≤ 16 := by rw [tagL_length]; exact Nat.le_refl _
theorem seal_ok (T : World) (h : Hp) (v u kn sv : Value) (key nonce known plain : List Nat) (sk : Bs h v key) (sn : Bs h u nonce) (sw : Bs h kn known) (ss : Bs h sv plain) (ck : Cap v) (cn : Cap u) :
    CallsH Tryd.prog T 148 #[v, u, kn, sv] h fun v' h' => SealRes h.size h' v' key nonce known plain ∧ Bel h.size h h' := by
  obtain ⟨p, c, rfl, _⟩ := sk.open
  obtain ⟨q, d, rfl, _⟩ := sn.open
  obtain ⟨pw, cw, rfl, _⟩ := sw.open
  obtain ⟨ps, cs, rfl, _⟩ := ss.open
  refine CallsH.of_code' (args := [_, _, _, _]) Tryd.func148 rfl rfl rfl rfl ?_
  unfold SealRes
  simp (config := {maxSteps := 2000000, implicitDefEqProofs := false}) only [go_sem, ↓reduceIte, Nat.reduceEqDiff, Nat.reduceAdd, Nat.reduceMul, Nat.reduceLeDiff, Nat.reduceLT, Nat.reduceSub, IntWalk.iteOmega, IntWalk.toNatUp, reduceCtorEq, false_and, and_false, false_or, or_false, true_or, or_true, not_true_eq_false, not_false_eq_true, Bool.not_true, Bool.not_false, Bool.and_true, Bool.true_and, Bool.and_false, Bool.false_and, Bool.not_eq_true, beq_self_eq_true, Nat.add_zero, Int.reduceLE, Int.reduceLT, Int.reduceToNat, Int.reduceNeg]
  refine (sealCheck_ok T _ _ _ _ _ _ _ _ _ _ _ _ _ 2000).pure ?_
  by_cases e : sealErr key.length nonce.length known.length plain.length 2000 = 0
  · obtain ⟨hk, hn, hw, hs⟩ := sealErr_zero e
    rw [e, if_pos rfl]
    simp (config := {maxSteps := 2000000, implicitDefEqProofs := false}) only [go_sem, ↓reduceIte, Nat.reduceEqDiff, Nat.reduceAdd, Nat.reduceMul, Nat.reduceLeDiff, Nat.reduceLT, Nat.reduceSub, IntWalk.iteOmega, IntWalk.toNatUp, reduceCtorEq, false_and, and_false, false_or, or_false, true_or, or_true, not_true_eq_false, not_false_eq_true, Bool.not_true, Bool.not_false, Bool.and_true, Bool.true_and, Bool.and_false, Bool.false_and, Bool.not_eq_true, beq_self_eq_true, Nat.add_zero, Int.reduceLE, Int.reduceLT, Int.reduceToNat, Int.reduceNeg, e]
    refine (mix_ok T _ _ _ _ key nonce plain 1 sk sn ss ck cn).use ?_
    rintro _ h1 ⟨⟨w1, rfl, o1⟩, b1⟩
    have e1 := mixErr_fine (k := 1) hk hn (by decide) (by decide) hs
    rw [e1, if_pos rfl] at o1
    rw [e1]
    have o1 : OBs h.size 5 h1 w1 (mixB key 1 nonce plain) := o1
    have z1 := b1.size
    have l1 := mixB_length key 1 nonce plain
    simp (config := {maxSteps := 2000000, implicitDefEqProofs := false}) only [go_sem, ↓reduceIte, Nat.reduceEqDiff, Nat.reduceAdd, Nat.reduceMul, Nat.reduceLeDiff, Nat.reduceLT, Nat.reduceSub, IntWalk.iteOmega, IntWalk.toNatUp, reduceCtorEq, false_and, and_false, false_or, or_false, true_or, or_true, not_true_eq_false, not_false_eq_true, Bool.not_true, Bool.not_false, Bool.and_true, Bool.true_and, Bool.and_false, Bool.false_and, Bool.not_eq_true, beq_self_eq_true, Nat.add_zero, Int.reduceLE, Int.reduceLT, Int.reduceToNat, Int.reduceNeg]
    refine (sealTagP_ok T _ _ _ _ _ key nonce known (mixB key 1 nonce plain) (sk.bel b1) (sn.bel b1) (sw.bel b1) o1.bs hk hn hw (by omega) ck cn).use ?_
    rintro v2 h2 ⟨o2, b2⟩
    have l2 : (sealTagS key nonce known (mixB key 1 nonce plain)).length ≤ 16 := tagL_le _ _
    have z2 := b2.size
    simp (config := {maxSteps := 2000000, implicitDefEqProofs := false}) only [go_sem, ↓reduceIte, Nat.reduceEqDiff, Nat.reduceAdd, Nat.reduceMul, Nat.reduceLeDiff, Nat.reduceLT, Nat.reduceSub, IntWalk.iteOmega, IntWalk.toNatUp, reduceCtorEq, false_and, and_false, false_or, or_false, true_or, or_true, not_true_eq_false, not_false_eq_true, Bool.not_true, Bool.not_false, Bool.and_true, Bool.true_and, Bool.and_false, Bool.false_and, Bool.not_eq_true, beq_self_eq_true, Nat.add_zero, Int.reduceLE, Int.reduceLT, Int.reduceToNat, Int.reduceNeg]
    refine append_bytes (E := 5) (B := h.size) tsl29 Tryd.underlying29 tn5 tz5 tb5 (o1.bel b2 (Nat.le_refl _)) (by omega) o2.bs (by omega) ?_
    intro v3 h3 o3 b3 _
    simp (config := {maxSteps := 2000000, implicitDefEqProofs := false}) only [go_sem, ↓reduceIte, Nat.reduceEqDiff, Nat.reduceAdd, Nat.reduceMul, Nat.reduceLeDiff, Nat.reduceLT, Nat.reduceSub, IntWalk.iteOmega, IntWalk.toNatUp, reduceCtorEq, false_and, and_false, false_or, or_false, true_or, or_true, not_true_eq_false, not_false_eq_true, Bool.not_true, Bool.not_false, Bool.and_true, Bool.true_and, Bool.and_false, Bool.false_and, Bool.not_eq_true, beq_self_eq_true, Nat.add_zero, Int.reduceLE, Int.reduceLT, Int.reduceToNat, Int.reduceNeg]
    exact ⟨⟨_, rfl, o3⟩, (b1.trans (b2.mono z1)).trans b3⟩
  · have e1 := sealErr_one e
    rw [if_neg e]
    simp (config := {maxSteps := 2000000, implicitDefEqProofs := false}) only [go_sem, ↓reduceIte, Nat.reduceEqDiff, Nat.reduceAdd, Nat.reduceMul, Nat.reduceLeDiff, Nat.reduceLT, Nat.reduceSub, IntWalk.iteOmega, IntWalk.toNatUp, reduceCtorEq, false_and, and_false, false_or, or_false, true_or, or_true, not_true_eq_false, not_false_eq_true, Bool.not_true, Bool.not_false, Bool.and_true, Bool.true_and, Bool.and_false, Bool.false_and, Bool.not_eq_true, beq_self_eq_true, Nat.add_zero, Int.reduceLE, Int.reduceLT, Int.reduceToNat, Int.reduceNeg, e1]
    exact ⟨_, rfl, OBs.nil _ _ _⟩
theorem sealed_ok (T : World) (h : Hp) (v u kn sv : Value) (key nonce known plain : List Nat) (sk : Bs h v key) (sn : Bs h u nonce) (sw : Bs h kn known) (ss : Bs h sv plain) :
    CallsH Tryd.prog T 152 #[v, u, kn, sv] h fun v' h' => SealRes h.size h' v' key nonce known plain ∧ Bel h.size h h' := by
  obtain ⟨p, c, rfl, _⟩ := sk.open
  obtain ⟨q, d, rfl, _⟩ := sn.open
  obtain ⟨pw, cw, rfl, _⟩ := sw.open
  obtain ⟨ps, cs, rfl, _⟩ := ss.open
  refine CallsH.of_code' (args := [_, _, _, _]) Tryd.func152 rfl rfl rfl rfl ?_
  unfold SealRes
  simp (config := {maxSteps := 2000000, implicitDefEqProofs := false}) only [go_sem, ↓reduceIte, Nat.reduceEqDiff, Nat.reduceAdd, Nat.reduceMul, Nat.reduceLeDiff, Nat.reduceLT, Nat.reduceSub, IntWalk.iteOmega, IntWalk.toNatUp, reduceCtorEq, false_and, and_false, false_or, or_false, true_or, or_true, not_true_eq_false, not_false_eq_true, Bool.not_true, Bool.not_false, Bool.and_true, Bool.true_and, Bool.and_false, Bool.false_and, Bool.not_eq_true, beq_self_eq_true, Nat.add_zero, Int.reduceLE, Int.reduceLT, Int.reduceToNat, Int.reduceNeg]
  refine (sealFault_ok T _ _ _ _ _ _ _ _ _ _ _ 2000).pure ?_
  by_cases e : sealErr key.length nonce.length known.length plain.length 2000 = 0
  · obtain ⟨hk, hn, hw, hs⟩ := sealErr_zero e
    rw [e, if_pos rfl]
    simp (config := {maxSteps := 2000000, implicitDefEqProofs := false}) only [go_sem, ↓reduceIte, Nat.reduceEqDiff, Nat.reduceAdd, Nat.reduceMul, Nat.reduceLeDiff, Nat.reduceLT, Nat.reduceSub, IntWalk.iteOmega, IntWalk.toNatUp, reduceCtorEq, false_and, and_false, false_or, or_false, true_or, or_true, not_true_eq_false, not_false_eq_true, Bool.not_true, Bool.not_false, Bool.and_true, Bool.true_and, Bool.and_false, Bool.false_and, Bool.not_eq_true, beq_self_eq_true, Nat.add_zero, Int.reduceLE, Int.reduceLT, Int.reduceToNat, Int.reduceNeg, e]
    refine (mixed_ok T _ _ _ _ key nonce plain 1 sk sn ss).use ?_
    rintro _ h1 ⟨⟨w1, rfl, o1⟩, b1⟩
    have e1 := mixErr_fine (k := 1) hk hn (by decide) (by decide) hs
    rw [e1, if_pos rfl] at o1
    rw [e1]
    have o1 : OBs h.size 5 h1 w1 (mixB key 1 nonce plain) := o1
    have z1 := b1.size
    have l1 := mixB_length key 1 nonce plain
    simp (config := {maxSteps := 2000000, implicitDefEqProofs := false}) only [go_sem, ↓reduceIte, Nat.reduceEqDiff, Nat.reduceAdd, Nat.reduceMul, Nat.reduceLeDiff, Nat.reduceLT, Nat.reduceSub, IntWalk.iteOmega, IntWalk.toNatUp, reduceCtorEq, false_and, and_false, false_or, or_false, true_or, or_true, not_true_eq_false, not_false_eq_true, Bool.not_true, Bool.not_false, Bool.and_true, Bool.true_and, Bool.and_false, Bool.false_and, Bool.not_eq_true, beq_self_eq_true, Nat.add_zero, Int.reduceLE, Int.reduceLT, Int.reduceToNat, Int.reduceNeg]
    refine (sealTagR_ok T _ _ _ _ _ key nonce known (mixB key 1 nonce plain) (sk.bel b1) (sn.bel b1) (sw.bel b1) o1.bs hk hn hw (by omega)).use ?_
    rintro v2 h2 ⟨o2, b2⟩
    have l2 : (sealTagS key nonce known (mixB key 1 nonce plain)).length ≤ 16 := tagL_le _ _
    have z2 := b2.size
    simp (config := {maxSteps := 2000000, implicitDefEqProofs := false}) only [go_sem, ↓reduceIte, Nat.reduceEqDiff, Nat.reduceAdd, Nat.reduceMul, Nat.reduceLeDiff, Nat.reduceLT, Nat.reduceSub, IntWalk.iteOmega, IntWalk.toNatUp, reduceCtorEq, false_and, and_false, false_or, or_false, true_or, or_true, not_true_eq_false, not_false_eq_true, Bool.not_true, Bool.not_false, Bool.and_true, Bool.true_and, Bool.and_false, Bool.false_and, Bool.not_eq_true, beq_self_eq_true, Nat.add_zero, Int.reduceLE, Int.reduceLT, Int.reduceToNat, Int.reduceNeg]
    refine (joined_ok T _ _ _ _ _ (o1.bel b2 (Nat.le_refl _)).bs o2.bs (by omega)).use ?_
    rintro v3 h3 ⟨o3, b3⟩
    simp (config := {maxSteps := 2000000, implicitDefEqProofs := false}) only [go_sem, ↓reduceIte, Nat.reduceEqDiff, Nat.reduceAdd, Nat.reduceMul, Nat.reduceLeDiff, Nat.reduceLT, Nat.reduceSub, IntWalk.iteOmega, IntWalk.toNatUp, reduceCtorEq, false_and, and_false, false_or, or_false, true_or, or_true, not_true_eq_false, not_false_eq_true, Bool.not_true, Bool.not_false, Bool.and_true, Bool.true_and, Bool.and_false, Bool.false_and, Bool.not_eq_true, beq_self_eq_true, Nat.add_zero, Int.reduceLE, Int.reduceLT, Int.reduceToNat, Int.reduceNeg]
    exact ⟨⟨_, rfl, o3.mono (by omega)⟩, (b1.trans (b2.mono z1)).trans (b3.mono (by omega))⟩
  · have e1 := sealErr_one e
    rw [if_neg e]
    simp (config := {maxSteps := 2000000, implicitDefEqProofs := false}) only [go_sem, ↓reduceIte, Nat.reduceEqDiff, Nat.reduceAdd, Nat.reduceMul, Nat.reduceLeDiff, Nat.reduceLT, Nat.reduceSub, IntWalk.iteOmega, IntWalk.toNatUp, reduceCtorEq, false_and, and_false, false_or, or_false, true_or, or_true, not_true_eq_false, not_false_eq_true, Bool.not_true, Bool.not_false, Bool.and_true, Bool.true_and, Bool.and_false, Bool.false_and, Bool.not_eq_true, beq_self_eq_true, Nat.add_zero, Int.reduceLE, Int.reduceLT, Int.reduceToNat, Int.reduceNeg, e1]
    exact ⟨_, rfl, OBs.nil _ _ _⟩
/-! ### opened -/
def openErr (key nonce known data : List Nat) : Int := if sealErr key.length nonce.length known.length data.length 2016 ≠ 0 then 1 else if data.length < 16 then 13 else if sealTagS key nonce known (data.take (data.length - 16)) ≠ data.drop (data.length - 16) then 6 else 0
def openS (key nonce data : List Nat) : List Nat := mixB key 1 nonce (data.take (data.length - 16))
def OpenRes (B : Nat) (h' : Hp) (v' : Value) (key nonce known data : List Nat) : Prop := ∃ w, v' = .tuple [w, .int .i64 (openErr key nonce known data)].toArray ∧ OBs B 5 h' w (if openErr key nonce known data = 0 then openS key nonce data else [])
end Go.Proofs.YtnpacofabdgcdaaDoor
