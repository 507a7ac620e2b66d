/- Small functions that many laws reach: what each computes; no condition but those in its own statement. -/
import Derived.Test.YtnpacofabdgcdaaDoorTy
namespace Go.Proofs.YtnpacofabdgcdaaDoor
open Go Go.V
set_option linter.unusedSimpArgs false
set_option linter.unusedVariables false
set_option maxRecDepth 100000
attribute [go_sem] false_and and_false false_or or_false true_or or_true not_true_eq_false not_false_eq_true Bool.not_true Bool.not_false Bool.and_true Bool.true_and Bool.and_false Bool.false_and Bool.not_eq_true beq_self_eq_true Nat.add_zero
theorem in_ok (T : World) (h : Hp) (a b c : Int) : CallsH Tryd.prog T 71 #[.int .i64 a, .int .i64 b, .int .i64 c] h fun v' h' => v' = .bool (decide (b ≤ a ∧ a ≤ c)) ∧ h' = h := by
  refine CallsH.of_code' (args := [_, _, _]) Tryd.func71 rfl rfl rfl rfl ?_
  by_cases h1 : b ≤ a
  · by_cases h2 : a ≤ c
    · simp (config := {contextual := true, maxSteps := 2000000, implicitDefEqProofs := false}) only [go_sem, ↓reduceIte, Nat.reduceEqDiff, Nat.reduceAdd, Nat.reduceMul, Nat.reduceLeDiff, Nat.reduceLT, Nat.reduceSub, IntWalk.iteOmega, IntWalk.toNatUp, reduceCtorEq, Int.reduceLE, Int.reduceLT, Int.reduceToNat, Int.reduceNeg, h1, h2]
    · simp (config := {contextual := true, maxSteps := 2000000, implicitDefEqProofs := false}) only [go_sem, ↓reduceIte, Nat.reduceEqDiff, Nat.reduceAdd, Nat.reduceMul, Nat.reduceLeDiff, Nat.reduceLT, Nat.reduceSub, IntWalk.iteOmega, IntWalk.toNatUp, reduceCtorEq, Int.reduceLE, Int.reduceLT, Int.reduceToNat, Int.reduceNeg, h1, h2]
  · simp (config := {contextual := true, maxSteps := 2000000, implicitDefEqProofs := false}) only [go_sem, ↓reduceIte, Nat.reduceEqDiff, Nat.reduceAdd, Nat.reduceMul, Nat.reduceLeDiff, Nat.reduceLT, Nat.reduceSub, IntWalk.iteOmega, IntWalk.toNatUp, reduceCtorEq, Int.reduceLE, Int.reduceLT, Int.reduceToNat, Int.reduceNeg, h1]
theorem within_ok (T : World) (h : Hp) (a b c : Int) : CallsH Tryd.prog T 119 #[.int .i64 a, .int .i64 b, .int .i64 c] h fun v' h' => v' = .bool (decide (b ≤ a ∧ a ≤ c)) ∧ h' = h := by
  refine CallsH.of_code' (args := [_, _, _]) Tryd.func119 rfl rfl rfl rfl ?_
  by_cases h1 : b ≤ a
  · by_cases h2 : a ≤ c
    · simp (config := {contextual := true, maxSteps := 2000000, implicitDefEqProofs := false}) only [go_sem, ↓reduceIte, Nat.reduceEqDiff, Nat.reduceAdd, Nat.reduceMul, Nat.reduceLeDiff, Nat.reduceLT, Nat.reduceSub, IntWalk.iteOmega, IntWalk.toNatUp, reduceCtorEq, Int.reduceLE, Int.reduceLT, Int.reduceToNat, Int.reduceNeg, h1, h2]
    · simp (config := {contextual := true, maxSteps := 2000000, implicitDefEqProofs := false}) only [go_sem, ↓reduceIte, Nat.reduceEqDiff, Nat.reduceAdd, Nat.reduceMul, Nat.reduceLeDiff, Nat.reduceLT, Nat.reduceSub, IntWalk.iteOmega, IntWalk.toNatUp, reduceCtorEq, Int.reduceLE, Int.reduceLT, Int.reduceToNat, Int.reduceNeg, h1, h2]
  · simp (config := {contextual := true, maxSteps := 2000000, implicitDefEqProofs := false}) only [go_sem, ↓reduceIte, Nat.reduceEqDiff, Nat.reduceAdd, Nat.reduceMul, Nat.reduceLeDiff, Nat.reduceLT, Nat.reduceSub, IntWalk.iteOmega, IntWalk.toNatUp, reduceCtorEq, Int.reduceLE, Int.reduceLT, Int.reduceToNat, Int.reduceNeg, h1]
theorem octets_ok (T : World) (h : Hp) (v : Value) (l : List Nat) (s : Bs h v l) (hl : l.length ≤ 140737488355328) :
    CallsH Tryd.prog T 23 #[v] h fun v' h' => OBs h.size 5 h' v' l ∧ Bel h.size h h' := by
  refine CallsH.of_code' (args := [_]) Tryd.func23 rfl rfl rfl rfl ?_
  simp (config := {contextual := true, maxSteps := 2000000, implicitDefEqProofs := false}) only [go_sem, ↓reduceIte, Nat.reduceEqDiff, Nat.reduceAdd, Nat.reduceMul, Nat.reduceLeDiff, Nat.reduceLT, Nat.reduceSub, IntWalk.iteOmega, IntWalk.toNatUp, reduceCtorEq, Int.reduceLE, Int.reduceLT, Int.reduceToNat, Int.reduceNeg]
  refine append_own (E := 5) (n := 1) (B := h.size) (bytes := 1) (m := 0) (cs := []) tsl29 Tryd.underlying29 tn5 tz5 rfl tb5 (Own.nil _ _ _ _) (Nat.le_refl _) s.sl (bv_one l) (by omega) (Nat.le_refl _) ?_
  intro v' h' ho hb
  simp (config := {contextual := true, maxSteps := 2000000, implicitDefEqProofs := false}) only [go_sem, ↓reduceIte, Nat.reduceEqDiff, Nat.reduceAdd, Nat.reduceMul, Nat.reduceLeDiff, Nat.reduceLT, Nat.reduceSub, IntWalk.iteOmega, IntWalk.toNatUp, reduceCtorEq, Int.reduceLE, Int.reduceLT, Int.reduceToNat, Int.reduceNeg]
  rw [Nat.zero_add, List.nil_append] at ho
  exact ⟨⟨ho, s.byte⟩, hb.bel (Nat.le_refl _) (fun b hb => by simp [blkOf] at hb)⟩
end Go.Proofs.YtnpacofabdgcdaaDoor
