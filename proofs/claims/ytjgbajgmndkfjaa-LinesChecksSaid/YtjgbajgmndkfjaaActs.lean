/- LinesChecks holds: lines.Check answers what the document says, at every argument; without any condition. -/
import Derived.Test.YtjgbajgmndkfjaaBase
import Derived.Test.YtjgbajgmndkfjaaW10
namespace Go.Proofs.Ytjgbajgmndkfjaa
open Go Go.V
set_option linter.unusedSimpArgs false
set_option linter.unusedVariables false
set_option maxRecDepth 100000
/-- An act's cells. -/
def actC (k n a b : Int) (d : Value) : List Value := [.int .i64 k, .int .i64 n, .int .i64 a, .int .i64 b, d]
/-- Which numbers an act of a kind has: each by its place, and its bound. -/
def slotsOf (k : Int) : List (Nat × Int) :=
  if k = 1 ∨ k = 2 ∨ k = 3 ∨ k = 9 then [(1, 4)] else if k = 4 ∨ k = 5 ∨ k = 6 then [(2, 1048576)] else if k = 8 then [(1, 4), (3, 100000)] else []
def slotV (b : Nat) (x : Nat × Int) : List Value := [.pointer (some ⟨b, x.1, none⟩), .int .i64 x.2]
set_option maxHeartbeats 2000000 in
theorem numbers2_ok (T : World) (h : Hp) (b : Nat) (k n a c : Int) (d : Value) (hb : h[b]? = some (.cells (actC k n a c d).toArray 61)) :
    CallsH Try.prog T 98 #[.pointer (some ⟨b, 0, none⟩)] h fun v' h' => ∃ w, v' = .tuple [w, .bool (decide (1 ≤ k ∧ k ≤ 9))].toArray ∧ Ots h.size 121 (slotV b) 2 h' w (slotsOf k) ∧ Bel h.size h h' := by
  refine CallsH.of_code' (args := [_]) Try.func98 rfl rfl rfl rfl ?_
  have b0 := lt_of_get hb
  have x0 : hc h ⟨b, 0, none⟩ = some (.int .i64 k) := by rw [hc_last hb]; rfl
  simp (config := {contextual := true, maxSteps := 2000000, implicitDefEqProofs := false}) only [go_sem, ↓reduceIte, Nat.reduceEqDiff, Nat.reduceAdd, Nat.reduceMul, Nat.reduceLeDiff, Nat.reduceLT, Nat.reduceSub, IntWalk.iteOmega, IntWalk.toNatUp, reduceCtorEq, false_and, and_false, false_or, or_false, true_or, or_true, not_true_eq_false, not_false_eq_true, Bool.not_true, Bool.not_false, Bool.and_true, Bool.true_and, Bool.and_false, Bool.false_and, Bool.not_eq_true, beq_self_eq_true, Nat.add_zero, Int.reduceLE, Int.reduceLT, Int.reduceToNat, Int.reduceNeg]
  refine VS.t (h.size) (.q 0 (.q 1 (.q 2 (.q 3 (.q 4 (.q 5 (.q 6 (.q 7 (.or 8 (.s 9 (.s 10 (.s 11 .nil))) (.s 9 (.s 8 (.s 10 (.s 11 .nil))))))))))))) mixed (by kernel_rfl) ?_
  unfold slotsOf
  have one : ∀ (g : Hp) (x : Nat × Int), h.size + 2 = g.size → Ots h.size 121 (slotV b) 2 (g.push (.cells [.pointer (some ⟨b, x.1, none⟩), .int .i64 x.2].toArray 121)) (.slice (some ⟨h.size + 2, 0, none⟩) 1 1) [x] := fun g x e => by rw [e]; exact Ots.one (enc := slotV b) x (fun _ => rfl) (by omega)
  have two : ∀ (g : Hp), h.size + 2 = g.size → Ots h.size 121 (slotV b) 2 (g.push (.cells [.pointer (some ⟨b, 1, none⟩), .int .i64 4, .pointer (some ⟨b, 3, none⟩), .int .i64 100000].toArray 121)) (.slice (some ⟨h.size + 2, 0, none⟩) 2 2) [(1, 4), (3, 100000)] := fun g e => by rw [e]; exact Ots.made (enc := slotV b) (fun _ => rfl) [(1, 4), (3, 100000)] (by omega)
  by_cases k1 : k = 1
  · have hk : decide (1 ≤ k ∧ k ≤ 9) = true := by rw [decide_eq_true_eq]; omega
    simp (config := {contextual := true, maxSteps := 2000000, implicitDefEqProofs := false}) only [go_sem, ↓reduceIte, Nat.reduceEqDiff, Nat.reduceAdd, Nat.reduceMul, Nat.reduceLeDiff, Nat.reduceLT, Nat.reduceSub, IntWalk.iteOmega, IntWalk.toNatUp, reduceCtorEq, false_and, and_false, false_or, or_false, true_or, or_true, not_true_eq_false, not_false_eq_true, Bool.not_true, Bool.not_false, Bool.and_true, Bool.true_and, Bool.and_false, Bool.false_and, Bool.not_eq_true, beq_self_eq_true, Nat.add_zero, Int.reduceLE, Int.reduceLT, Int.reduceToNat, Int.reduceNeg, x0, k1]
    refine ⟨⟨_, rfl, one _ (1, 4) (by simp), ?_⟩, ⟨_, rfl, one _ (1, 4) (by simp), ?_⟩⟩ <;> (repeat' (first | exact Bel.refl _ _ | assumption | refine Bel.add ?_ _ | refine Bel.addSet ?_ (by first | omega | (simp; omega)) _ | refine Bel.trans (by assumption) ?_))
  ·
    by_cases k2 : k = 2
    · have hk : decide (1 ≤ k ∧ k ≤ 9) = true := by rw [decide_eq_true_eq]; omega
      simp (config := {contextual := true, maxSteps := 2000000, implicitDefEqProofs := false}) only [go_sem, ↓reduceIte, Nat.reduceEqDiff, Nat.reduceAdd, Nat.reduceMul, Nat.reduceLeDiff, Nat.reduceLT, Nat.reduceSub, IntWalk.iteOmega, IntWalk.toNatUp, reduceCtorEq, false_and, and_false, false_or, or_false, true_or, or_true, not_true_eq_false, not_false_eq_true, Bool.not_true, Bool.not_false, Bool.and_true, Bool.true_and, Bool.and_false, Bool.false_and, Bool.not_eq_true, beq_self_eq_true, Nat.add_zero, Int.reduceLE, Int.reduceLT, Int.reduceToNat, Int.reduceNeg, x0, k2]
      refine ⟨⟨_, rfl, one _ (1, 4) (by simp), ?_⟩, ⟨_, rfl, one _ (1, 4) (by simp), ?_⟩⟩ <;> (repeat' (first | exact Bel.refl _ _ | assumption | refine Bel.add ?_ _ | refine Bel.addSet ?_ (by first | omega | (simp; omega)) _ | refine Bel.trans (by assumption) ?_))
    ·
      by_cases k3 : k = 3
      · have hk : decide (1 ≤ k ∧ k ≤ 9) = true := by rw [decide_eq_true_eq]; omega
        simp (config := {contextual := true, maxSteps := 2000000, implicitDefEqProofs := false}) only [go_sem, ↓reduceIte, Nat.reduceEqDiff, Nat.reduceAdd, Nat.reduceMul, Nat.reduceLeDiff, Nat.reduceLT, Nat.reduceSub, IntWalk.iteOmega, IntWalk.toNatUp, reduceCtorEq, false_and, and_false, false_or, or_false, true_or, or_true, not_true_eq_false, not_false_eq_true, Bool.not_true, Bool.not_false, Bool.and_true, Bool.true_and, Bool.and_false, Bool.false_and, Bool.not_eq_true, beq_self_eq_true, Nat.add_zero, Int.reduceLE, Int.reduceLT, Int.reduceToNat, Int.reduceNeg, x0, k3]
        refine ⟨⟨_, rfl, one _ (1, 4) (by simp), ?_⟩, ⟨_, rfl, one _ (1, 4) (by simp), ?_⟩⟩ <;> (repeat' (first | exact Bel.refl _ _ | assumption | refine Bel.add ?_ _ | refine Bel.addSet ?_ (by first | omega | (simp; omega)) _ | refine Bel.trans (by assumption) ?_))
      ·
        by_cases k9 : k = 9
        · have hk : decide (1 ≤ k ∧ k ≤ 9) = true := by rw [decide_eq_true_eq]; omega
          simp (config := {contextual := true, maxSteps := 2000000, implicitDefEqProofs := false}) only [go_sem, ↓reduceIte, Nat.reduceEqDiff, Nat.reduceAdd, Nat.reduceMul, Nat.reduceLeDiff, Nat.reduceLT, Nat.reduceSub, IntWalk.iteOmega, IntWalk.toNatUp, reduceCtorEq, false_and, and_false, false_or, or_false, true_or, or_true, not_true_eq_false, not_false_eq_true, Bool.not_true, Bool.not_false, Bool.and_true, Bool.true_and, Bool.and_false, Bool.false_and, Bool.not_eq_true, beq_self_eq_true, Nat.add_zero, Int.reduceLE, Int.reduceLT, Int.reduceToNat, Int.reduceNeg, x0, k9]
          refine ⟨⟨_, rfl, one _ (1, 4) (by simp), ?_⟩, ⟨_, rfl, one _ (1, 4) (by simp), ?_⟩⟩ <;> (repeat' (first | exact Bel.refl _ _ | assumption | refine Bel.add ?_ _ | refine Bel.addSet ?_ (by first | omega | (simp; omega)) _ | refine Bel.trans (by assumption) ?_))
        ·
          by_cases k4 : k = 4
          · have hk : decide (1 ≤ k ∧ k ≤ 9) = true := by rw [decide_eq_true_eq]; omega
            simp (config := {contextual := true, maxSteps := 2000000, implicitDefEqProofs := false}) only [go_sem, ↓reduceIte, Nat.reduceEqDiff, Nat.reduceAdd, Nat.reduceMul, Nat.reduceLeDiff, Nat.reduceLT, Nat.reduceSub, IntWalk.iteOmega, IntWalk.toNatUp, reduceCtorEq, false_and, and_false, false_or, or_false, true_or, or_true, not_true_eq_false, not_false_eq_true, Bool.not_true, Bool.not_false, Bool.and_true, Bool.true_and, Bool.and_false, Bool.false_and, Bool.not_eq_true, beq_self_eq_true, Nat.add_zero, Int.reduceLE, Int.reduceLT, Int.reduceToNat, Int.reduceNeg, x0, k4]
            refine ⟨⟨_, rfl, one _ (2, 1048576) (by simp), ?_⟩, ⟨_, rfl, one _ (2, 1048576) (by simp), ?_⟩⟩ <;> (repeat' (first | exact Bel.refl _ _ | assumption | refine Bel.add ?_ _ | refine Bel.addSet ?_ (by first | omega | (simp; omega)) _ | refine Bel.trans (by assumption) ?_))
          ·
            by_cases k5 : k = 5
            · have hk : decide (1 ≤ k ∧ k ≤ 9) = true := by rw [decide_eq_true_eq]; omega
              simp (config := {contextual := true, maxSteps := 2000000, implicitDefEqProofs := false}) only [go_sem, ↓reduceIte, Nat.reduceEqDiff, Nat.reduceAdd, Nat.reduceMul, Nat.reduceLeDiff, Nat.reduceLT, Nat.reduceSub, IntWalk.iteOmega, IntWalk.toNatUp, reduceCtorEq, false_and, and_false, false_or, or_false, true_or, or_true, not_true_eq_false, not_false_eq_true, Bool.not_true, Bool.not_false, Bool.and_true, Bool.true_and, Bool.and_false, Bool.false_and, Bool.not_eq_true, beq_self_eq_true, Nat.add_zero, Int.reduceLE, Int.reduceLT, Int.reduceToNat, Int.reduceNeg, x0, k5]
              refine ⟨⟨_, rfl, one _ (2, 1048576) (by simp), ?_⟩, ⟨_, rfl, one _ (2, 1048576) (by simp), ?_⟩⟩ <;> (repeat' (first | exact Bel.refl _ _ | assumption | refine Bel.add ?_ _ | refine Bel.addSet ?_ (by first | omega | (simp; omega)) _ | refine Bel.trans (by assumption) ?_))
            ·
              by_cases k6 : k = 6
              · have hk : decide (1 ≤ k ∧ k ≤ 9) = true := by rw [decide_eq_true_eq]; omega
                simp (config := {contextual := true, maxSteps := 2000000, implicitDefEqProofs := false}) only [go_sem, ↓reduceIte, Nat.reduceEqDiff, Nat.reduceAdd, Nat.reduceMul, Nat.reduceLeDiff, Nat.reduceLT, Nat.reduceSub, IntWalk.iteOmega, IntWalk.toNatUp, reduceCtorEq, false_and, and_false, false_or, or_false, true_or, or_true, not_true_eq_false, not_false_eq_true, Bool.not_true, Bool.not_false, Bool.and_true, Bool.true_and, Bool.and_false, Bool.false_and, Bool.not_eq_true, beq_self_eq_true, Nat.add_zero, Int.reduceLE, Int.reduceLT, Int.reduceToNat, Int.reduceNeg, x0, k6]
                refine ⟨⟨_, rfl, one _ (2, 1048576) (by simp), ?_⟩, ⟨_, rfl, one _ (2, 1048576) (by simp), ?_⟩⟩ <;> (repeat' (first | exact Bel.refl _ _ | assumption | refine Bel.add ?_ _ | refine Bel.addSet ?_ (by first | omega | (simp; omega)) _ | refine Bel.trans (by assumption) ?_))
              ·
                by_cases k7 : k = 7
                · have hk : decide (1 ≤ k ∧ k ≤ 9) = true := by rw [decide_eq_true_eq]; omega
                  simp (config := {contextual := true, maxSteps := 2000000, implicitDefEqProofs := false}) only [go_sem, ↓reduceIte, Nat.reduceEqDiff, Nat.reduceAdd, Nat.reduceMul, Nat.reduceLeDiff, Nat.reduceLT, Nat.reduceSub, IntWalk.iteOmega, IntWalk.toNatUp, reduceCtorEq, false_and, and_false, false_or, or_false, true_or, or_true, not_true_eq_false, not_false_eq_true, Bool.not_true, Bool.not_false, Bool.and_true, Bool.true_and, Bool.and_false, Bool.false_and, Bool.not_eq_true, beq_self_eq_true, Nat.add_zero, Int.reduceLE, Int.reduceLT, Int.reduceToNat, Int.reduceNeg, x0, k7]
                  exact ⟨⟨_, rfl, Ots.nil _ _ _ _ _⟩, ⟨_, rfl, Ots.nil _ _ _ _ _⟩⟩
                ·
                  by_cases k8 : k = 8
                  · have hk : decide (1 ≤ k ∧ k ≤ 9) = true := by rw [decide_eq_true_eq]; omega
                    simp (config := {contextual := true, maxSteps := 2000000, implicitDefEqProofs := false}) only [go_sem, ↓reduceIte, Nat.reduceEqDiff, Nat.reduceAdd, Nat.reduceMul, Nat.reduceLeDiff, Nat.reduceLT, Nat.reduceSub, IntWalk.iteOmega, IntWalk.toNatUp, reduceCtorEq, false_and, and_false, false_or, or_false, true_or, or_true, not_true_eq_false, not_false_eq_true, Bool.not_true, Bool.not_false, Bool.and_true, Bool.true_and, Bool.and_false, Bool.false_and, Bool.not_eq_true, beq_self_eq_true, Nat.add_zero, Int.reduceLE, Int.reduceLT, Int.reduceToNat, Int.reduceNeg, x0, k8]
                    refine ⟨?_, ?_⟩
                    · refine VS.b (h.size + 2) [(0, true), (1, true), (2, true), (3, true), (4, true), (5, false), (6, true), (7, true)] mixed (by kernel_rfl) ?_
                      simp (config := {contextual := true, maxSteps := 2000000, implicitDefEqProofs := false}) only [go_sem, ↓reduceIte, Nat.reduceEqDiff, Nat.reduceAdd, Nat.reduceMul, Nat.reduceLeDiff, Nat.reduceLT, Nat.reduceSub, IntWalk.iteOmega, IntWalk.toNatUp, reduceCtorEq, false_and, and_false, false_or, or_false, true_or, or_true, not_true_eq_false, not_false_eq_true, Bool.not_true, Bool.not_false, Bool.and_true, Bool.true_and, Bool.and_false, Bool.false_and, Bool.not_eq_true, beq_self_eq_true, Nat.add_zero, Int.reduceLE, Int.reduceLT, Int.reduceToNat, Int.reduceNeg]
                      refine ⟨(Bel.refl _ _).addP (by simp) _, _, rfl, two _ (by simp), ?_⟩
                      (repeat' (first | exact Bel.refl _ _ | assumption | refine Bel.add ?_ _ | refine Bel.addSet ?_ (by first | omega | (simp; omega)) _ | refine Bel.trans (by assumption) ?_))
                    · refine VS.b (h.size + 2) [(0, true), (1, true), (2, true), (3, true), (4, true), (5, false), (6, true), (7, true)] mixed (by kernel_rfl) ?_
                      simp (config := {contextual := true, maxSteps := 2000000, implicitDefEqProofs := false}) only [go_sem, ↓reduceIte, Nat.reduceEqDiff, Nat.reduceAdd, Nat.reduceMul, Nat.reduceLeDiff, Nat.reduceLT, Nat.reduceSub, IntWalk.iteOmega, IntWalk.toNatUp, reduceCtorEq, false_and, and_false, false_or, or_false, true_or, or_true, not_true_eq_false, not_false_eq_true, Bool.not_true, Bool.not_false, Bool.and_true, Bool.true_and, Bool.and_false, Bool.false_and, Bool.not_eq_true, beq_self_eq_true, Nat.add_zero, Int.reduceLE, Int.reduceLT, Int.reduceToNat, Int.reduceNeg]
                      refine ⟨(Bel.refl _ _).addP (by simp) _, _, rfl, two _ (by simp), ?_⟩
                      (repeat' (first | exact Bel.refl _ _ | assumption | refine Bel.add ?_ _ | refine Bel.addSet ?_ (by first | omega | (simp; omega)) _ | refine Bel.trans (by assumption) ?_))
                  ·
                    have hk : ¬ (1 ≤ k ∧ k ≤ 9) := by omega
                    simp (config := {contextual := true, maxSteps := 2000000, implicitDefEqProofs := false}) only [go_sem, ↓reduceIte, Nat.reduceEqDiff, Nat.reduceAdd, Nat.reduceMul, Nat.reduceLeDiff, Nat.reduceLT, Nat.reduceSub, IntWalk.iteOmega, IntWalk.toNatUp, reduceCtorEq, false_and, and_false, false_or, or_false, true_or, or_true, not_true_eq_false, not_false_eq_true, Bool.not_true, Bool.not_false, Bool.and_true, Bool.true_and, Bool.and_false, Bool.false_and, Bool.not_eq_true, beq_self_eq_true, Nat.add_zero, Int.reduceLE, Int.reduceLT, Int.reduceToNat, Int.reduceNeg, x0, k1, k2, k3, k9, k4, k5, k6, k7, k8, hk]
                    exact ⟨⟨_, rfl, Ots.nil _ _ _ _ _⟩, ⟨_, rfl, Ots.nil _ _ _ _ _⟩⟩
end Go.Proofs.Ytjgbajgmndkfjaa
