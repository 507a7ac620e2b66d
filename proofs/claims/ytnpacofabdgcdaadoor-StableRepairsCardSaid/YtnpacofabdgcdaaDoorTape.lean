/- Tapes: what the small functions compute; no condition but those in the statements. -/
import Derived.Test.YtnpacofabdgcdaaDoorBytes
import Derived.Test.YtnpacofabdgcdaaDoorW5
namespace Go.Proofs.YtnpacofabdgcdaaDoor
open Go Go.V
set_option linter.unusedSimpArgs false
set_option linter.unusedVariables false
set_option maxRecDepth 100000
theorem tapes_ok (T : World) (h : Hp) (v : Value) (n : Int) (l : List Nat) (s : Bs h v l) (hl : l.length ≤ 140737488355328) :
    CallsH Tryd.prog T 46 #[.agg [v, .int .i64 n].toArray] h fun v' h' => ∃ w, v' = .agg [w, .int .i64 n].toArray ∧ OBs h.size 5 h' w l ∧ Bel h.size h h' := by
  obtain ⟨p, c, rfl, hc1⟩ := s.open
  refine CallsH.of_code' (args := [_]) Tryd.func46 rfl rfl rfl rfl ?_
  simp (config := {contextual := true, maxSteps := 2000000, implicitDefEqProofs := false}) only [go_sem, ↓reduceIte, Nat.reduceEqDiff, Nat.reduceAdd, Nat.reduceMul, Nat.reduceLeDiff, Nat.reduceLT, Nat.reduceSub, IntWalk.iteOmega, IntWalk.toNatUp, reduceCtorEq, false_and, and_false, false_or, or_false, true_or, or_true, not_true_eq_false, not_false_eq_true, Bool.not_true, Bool.not_false, Bool.and_true, Bool.true_and, Bool.and_false, Bool.false_and, Bool.not_eq_true, beq_self_eq_true, Nat.add_zero, Int.reduceLE, Int.reduceLT, Int.reduceToNat, Int.reduceNeg]
  refine VS.b (h.size + 1) [(0, true), (1, true), (3, true), (4, true), (2, false), (5, true), (6, false)] mixed (by kernel_rfl) ?_
  simp (config := {contextual := true, maxSteps := 2000000, implicitDefEqProofs := false}) only [go_sem, ↓reduceIte, Nat.reduceEqDiff, Nat.reduceAdd, Nat.reduceMul, Nat.reduceLeDiff, Nat.reduceLT, Nat.reduceSub, IntWalk.iteOmega, IntWalk.toNatUp, reduceCtorEq, false_and, and_false, false_or, or_false, true_or, or_true, not_true_eq_false, not_false_eq_true, Bool.not_true, Bool.not_false, Bool.and_true, Bool.true_and, Bool.and_false, Bool.false_and, Bool.not_eq_true, beq_self_eq_true, Nat.add_zero, Int.reduceLE, Int.reduceLT, Int.reduceToNat, Int.reduceNeg]
  refine (octets_ok T _ _ l (s.bel (((Bel.refl _ _).add _).add _)) hl).use ?_
  rintro v1 h1 ⟨o1, b1⟩
  have z1 : h.size + 1 < h1.size := by have := b1.size; simp at this; omega
  have r1 := b1.get (k := h.size + 1) (by simp) (by rw [Array.getElem?_push, if_pos (by simp)])
  have w1 := wr_get r1
  obtain ⟨p1, c1, rfl, _⟩ := o1.bs.open
  simp (config := {contextual := true, maxSteps := 2000000, implicitDefEqProofs := false}) only [go_sem, ↓reduceIte, Nat.reduceEqDiff, Nat.reduceAdd, Nat.reduceMul, Nat.reduceLeDiff, Nat.reduceLT, Nat.reduceSub, IntWalk.iteOmega, IntWalk.toNatUp, reduceCtorEq, false_and, and_false, false_or, or_false, true_or, or_true, not_true_eq_false, not_false_eq_true, Bool.not_true, Bool.not_false, Bool.and_true, Bool.true_and, Bool.and_false, Bool.false_and, Bool.not_eq_true, beq_self_eq_true, Nat.add_zero, Int.reduceLE, Int.reduceLT, Int.reduceToNat, Int.reduceNeg, w1, z1]
  have c0 : Bel (h.size + 1) _ h1 := b1.mono (by simp)
  refine ⟨c0, c0.addSet (Nat.le_refl _) _, _, rfl, ?_, ?_⟩
  · exact (o1.setLow (by simp) _).mono (by simp; omega)
  · exact (((Bel.refl _ _).add _).add _ |>.trans (b1.mono (by simp; omega))).addSet (by omega) _
theorem tapeMay_ok (T : World) (h : Hp) (p : Option Addr) (m c : Nat) (n : Int) :
    CallsH Tryd.prog T 92 #[.agg [.slice p m c, .int .i64 n].toArray] h fun v' h' => v' = .bool (decide (m ≤ 100000 ∧ 0 ≤ n ∧ n ≤ m)) ∧ h' = h.push (.cells [.slice p m c, .int .i64 n].toArray 65) := by
  refine CallsH.of_code' (args := [_]) Tryd.func92 rfl rfl rfl rfl ?_
  by_cases h1 : (m : Int) ≤ 100000
  · simp (config := {contextual := true, maxSteps := 2000000, implicitDefEqProofs := false}) only [go_sem, ↓reduceIte, Nat.reduceEqDiff, Nat.reduceAdd, Nat.reduceMul, Nat.reduceLeDiff, Nat.reduceLT, Nat.reduceSub, IntWalk.iteOmega, IntWalk.toNatUp, reduceCtorEq, false_and, and_false, false_or, or_false, true_or, or_true, not_true_eq_false, not_false_eq_true, Bool.not_true, Bool.not_false, Bool.and_true, Bool.true_and, Bool.and_false, Bool.false_and, Bool.not_eq_true, beq_self_eq_true, Nat.add_zero, Int.reduceLE, Int.reduceLT, Int.reduceToNat, Int.reduceNeg, h1]
    refine (in_ok T _ _ _ _).pure ?_
    simp (config := {contextual := true, maxSteps := 2000000, implicitDefEqProofs := false}) only [go_sem, ↓reduceIte, Nat.reduceEqDiff, Nat.reduceAdd, Nat.reduceMul, Nat.reduceLeDiff, Nat.reduceLT, Nat.reduceSub, IntWalk.iteOmega, IntWalk.toNatUp, reduceCtorEq, false_and, and_false, false_or, or_false, true_or, or_true, not_true_eq_false, not_false_eq_true, Bool.not_true, Bool.not_false, Bool.and_true, Bool.true_and, Bool.and_false, Bool.false_and, Bool.not_eq_true, beq_self_eq_true, Nat.add_zero, Int.reduceLE, Int.reduceLT, Int.reduceToNat, Int.reduceNeg, h1]
    have : m ≤ 100000 := by omega
    simp [this]
  · simp (config := {contextual := true, maxSteps := 2000000, implicitDefEqProofs := false}) only [go_sem, ↓reduceIte, Nat.reduceEqDiff, Nat.reduceAdd, Nat.reduceMul, Nat.reduceLeDiff, Nat.reduceLT, Nat.reduceSub, IntWalk.iteOmega, IntWalk.toNatUp, reduceCtorEq, false_and, and_false, false_or, or_false, true_or, or_true, not_true_eq_false, not_false_eq_true, Bool.not_true, Bool.not_false, Bool.and_true, Bool.true_and, Bool.and_false, Bool.false_and, Bool.not_eq_true, beq_self_eq_true, Nat.add_zero, Int.reduceLE, Int.reduceLT, Int.reduceToNat, Int.reduceNeg, h1]
    have : ¬ m ≤ 100000 := by omega
    simp [this]
theorem open_ok (T : World) (h : Hp) (v : Value) (n : Int) (l : List Nat) (s : Bs h v l) (hl : l.length ≤ 140737488355328) :
    CallsH Tryd.prog T 88 #[.agg [v, .int .i64 n].toArray] h fun v' h' => Bel h.size h h' ∧
      (if l.length ≤ 100000 ∧ 0 ≤ n ∧ n ≤ l.length then ∃ w, v' = .tuple [.agg [w, .int .i64 n].toArray, .bool true].toArray ∧ OBs h.size 5 h' w l
        else v' = .tuple [.agg [.slice none 0 0, .int .i64 0].toArray, .bool false].toArray) := by
  obtain ⟨p, c, rfl, hc1⟩ := s.open
  refine CallsH.of_code' (args := [_]) Tryd.func88 rfl rfl rfl rfl ?_
  by_cases q1 : n < 0
  · have q : ¬ (l.length ≤ 100000 ∧ 0 ≤ n ∧ n ≤ l.length) := by omega
    simp (config := {contextual := true, maxSteps := 2000000, implicitDefEqProofs := false}) only [go_sem, ↓reduceIte, Nat.reduceEqDiff, Nat.reduceAdd, Nat.reduceMul, Nat.reduceLeDiff, Nat.reduceLT, Nat.reduceSub, IntWalk.iteOmega, IntWalk.toNatUp, reduceCtorEq, false_and, and_false, false_or, or_false, true_or, or_true, not_true_eq_false, not_false_eq_true, Bool.not_true, Bool.not_false, Bool.and_true, Bool.true_and, Bool.and_false, Bool.false_and, Bool.not_eq_true, beq_self_eq_true, Nat.add_zero, Int.reduceLE, Int.reduceLT, Int.reduceToNat, Int.reduceNeg, q1, q]
    exact ((Bel.refl _ _).add _).add _
  · by_cases q2 : (l.length : Int) < n
    · have q : ¬ (l.length ≤ 100000 ∧ 0 ≤ n ∧ n ≤ l.length) := by omega
      simp (config := {contextual := true, maxSteps := 2000000, implicitDefEqProofs := false}) only [go_sem, ↓reduceIte, Nat.reduceEqDiff, Nat.reduceAdd, Nat.reduceMul, Nat.reduceLeDiff, Nat.reduceLT, Nat.reduceSub, IntWalk.iteOmega, IntWalk.toNatUp, reduceCtorEq, false_and, and_false, false_or, or_false, true_or, or_true, not_true_eq_false, not_false_eq_true, Bool.not_true, Bool.not_false, Bool.and_true, Bool.true_and, Bool.and_false, Bool.false_and, Bool.not_eq_true, beq_self_eq_true, Nat.add_zero, Int.reduceLE, Int.reduceLT, Int.reduceToNat, Int.reduceNeg, q1, q2, q]
      exact ((Bel.refl _ _).add _).add _
    · by_cases q3 : (100000 : Int) < l.length
      · have q : ¬ (l.length ≤ 100000 ∧ 0 ≤ n ∧ n ≤ l.length) := by omega
        simp (config := {contextual := true, maxSteps := 2000000, implicitDefEqProofs := false}) only [go_sem, ↓reduceIte, Nat.reduceEqDiff, Nat.reduceAdd, Nat.reduceMul, Nat.reduceLeDiff, Nat.reduceLT, Nat.reduceSub, IntWalk.iteOmega, IntWalk.toNatUp, reduceCtorEq, false_and, and_false, false_or, or_false, true_or, or_true, not_true_eq_false, not_false_eq_true, Bool.not_true, Bool.not_false, Bool.and_true, Bool.true_and, Bool.and_false, Bool.false_and, Bool.not_eq_true, beq_self_eq_true, Nat.add_zero, Int.reduceLE, Int.reduceLT, Int.reduceToNat, Int.reduceNeg, q1, q2, q3, q]
        exact ((Bel.refl _ _).add _).add _
      · have q : (l.length ≤ 100000 ∧ 0 ≤ n ∧ n ≤ l.length) := by omega
        simp (config := {contextual := true, maxSteps := 2000000, implicitDefEqProofs := false}) only [go_sem, ↓reduceIte, Nat.reduceEqDiff, Nat.reduceAdd, Nat.reduceMul, Nat.reduceLeDiff, Nat.reduceLT, Nat.reduceSub, IntWalk.iteOmega, IntWalk.toNatUp, reduceCtorEq, false_and, and_false, false_or, or_false, true_or, or_true, not_true_eq_false, not_false_eq_true, Bool.not_true, Bool.not_false, Bool.and_true, Bool.true_and, Bool.and_false, Bool.false_and, Bool.not_eq_true, beq_self_eq_true, Nat.add_zero, Int.reduceLE, Int.reduceLT, Int.reduceToNat, Int.reduceNeg, q1, q2, q3]
        refine VS.b (h.size + 1) [(0, true), (1, true), (3, true), (4, true), (2, false), (5, true), (6, false), (7, true)] mixed (by kernel_rfl) ?_
        simp (config := {contextual := true, maxSteps := 2000000, implicitDefEqProofs := false}) only [go_sem, ↓reduceIte, Nat.reduceEqDiff, Nat.reduceAdd, Nat.reduceMul, Nat.reduceLeDiff, Nat.reduceLT, Nat.reduceSub, IntWalk.iteOmega, IntWalk.toNatUp, reduceCtorEq, false_and, and_false, false_or, or_false, true_or, or_true, not_true_eq_false, not_false_eq_true, Bool.not_true, Bool.not_false, Bool.and_true, Bool.true_and, Bool.and_false, Bool.false_and, Bool.not_eq_true, beq_self_eq_true, Nat.add_zero, Int.reduceLE, Int.reduceLT, Int.reduceToNat, Int.reduceNeg, q1, q2, q3]
        refine (clone_ok T _ _ l (s.bel (((Bel.refl _ _).add _).add _)) hl).use ?_
        rintro v1 h1 ⟨o1, b1⟩
        have z1 : h.size + 1 < h1.size := by have := b1.size; simp at this; omega
        have r1 := b1.get (k := h.size + 1) (by simp) (by rw [Array.getElem?_push, if_pos (by simp)])
        have w1 := wr_get r1
        obtain ⟨p1, c1, rfl, _⟩ := o1.bs.open
        simp (config := {contextual := true, maxSteps := 2000000, implicitDefEqProofs := false}) only [go_sem, ↓reduceIte, Nat.reduceEqDiff, Nat.reduceAdd, Nat.reduceMul, Nat.reduceLeDiff, Nat.reduceLT, Nat.reduceSub, IntWalk.iteOmega, IntWalk.toNatUp, reduceCtorEq, false_and, and_false, false_or, or_false, true_or, or_true, not_true_eq_false, not_false_eq_true, Bool.not_true, Bool.not_false, Bool.and_true, Bool.true_and, Bool.and_false, Bool.false_and, Bool.not_eq_true, beq_self_eq_true, Nat.add_zero, Int.reduceLE, Int.reduceLT, Int.reduceToNat, Int.reduceNeg, w1, z1]
        have c0 : Bel (h.size + 1) _ h1 := b1.mono (by simp)
        refine ⟨c0, c0.addSet (Nat.le_refl _) _, ?_, _, rfl, ?_⟩
        · exact (((Bel.refl _ _).add _).add _ |>.trans (b1.mono (by simp; omega))).addSet (by omega) _
        · exact (o1.setLow (by simp) _).mono (by simp; omega)
theorem sameTape_ok (T : World) (h : Hp) (v u : Value) (n m : Int) (l k : List Nat) (s : Bs h v l) (t : Bs h u k) :
    CallsH Tryd.prog T 49 #[.agg [v, .int .i64 n].toArray, .agg [u, .int .i64 m].toArray] h fun v' h' => v' = .bool (decide (n = m ∧ l = k)) ∧ Bel h.size h h' := by
  obtain ⟨p, c, rfl, hc1⟩ := s.open
  obtain ⟨p2, c2, rfl, hc2⟩ := t.open
  refine CallsH.of_code' (args := [_, _]) Tryd.func49 rfl rfl rfl rfl ?_
  have bb : ∀ (o o' : Obj), Bel h.size h ((h.push o).push o') := fun o o' => ((Bel.refl _ _).add _).add _
  by_cases q : n = m
  · subst q
    simp (config := {contextual := true, maxSteps := 2000000, implicitDefEqProofs := false}) only [go_sem, ↓reduceIte, Nat.reduceEqDiff, Nat.reduceAdd, Nat.reduceMul, Nat.reduceLeDiff, Nat.reduceLT, Nat.reduceSub, IntWalk.iteOmega, IntWalk.toNatUp, reduceCtorEq, false_and, and_false, false_or, or_false, true_or, or_true, not_true_eq_false, not_false_eq_true, Bool.not_true, Bool.not_false, Bool.and_true, Bool.true_and, Bool.and_false, Bool.false_and, Bool.not_eq_true, beq_self_eq_true, Nat.add_zero, Int.reduceLE, Int.reduceLT, Int.reduceToNat, Int.reduceNeg]
    refine (sameBytes_ok T _ _ _ l k (s.bel (bb _ _)) (t.bel (bb _ _))).use ?_
    rintro v1 h1 ⟨rfl, rfl⟩
    simp (config := {contextual := true, maxSteps := 2000000, implicitDefEqProofs := false}) only [go_sem, ↓reduceIte, Nat.reduceEqDiff, Nat.reduceAdd, Nat.reduceMul, Nat.reduceLeDiff, Nat.reduceLT, Nat.reduceSub, IntWalk.iteOmega, IntWalk.toNatUp, reduceCtorEq, false_and, and_false, false_or, or_false, true_or, or_true, not_true_eq_false, not_false_eq_true, Bool.not_true, Bool.not_false, Bool.and_true, Bool.true_and, Bool.and_false, Bool.false_and, Bool.not_eq_true, beq_self_eq_true, Nat.add_zero, Int.reduceLE, Int.reduceLT, Int.reduceToNat, Int.reduceNeg]
    exact bb _ _
  · simp (config := {contextual := true, maxSteps := 2000000, implicitDefEqProofs := false}) only [go_sem, ↓reduceIte, Nat.reduceEqDiff, Nat.reduceAdd, Nat.reduceMul, Nat.reduceLeDiff, Nat.reduceLT, Nat.reduceSub, IntWalk.iteOmega, IntWalk.toNatUp, reduceCtorEq, false_and, and_false, false_or, or_false, true_or, or_true, not_true_eq_false, not_false_eq_true, Bool.not_true, Bool.not_false, Bool.and_true, Bool.true_and, Bool.and_false, Bool.false_and, Bool.not_eq_true, beq_self_eq_true, Nat.add_zero, Int.reduceLE, Int.reduceLT, Int.reduceToNat, Int.reduceNeg, q]
    exact bb _ _
theorem tapeArg {h : Hp} {k : Nat} {v : Value} (hf : fitV Tryd.prog h k 65 v) : ∃ w n l, v = .agg [w, .int .i64 n].toArray ∧ Bs h w l ∧ l.length ≤ 140737488355328 ∧ Cap w := by
  obtain ⟨cs, rfl, hl, hf⟩ := fitV_struct (l := [29, 3]) Tryd.underlying65 (by kernel_rfl) (by kernel_rfl) hf
  obtain ⟨w, _, k1, rfl, hw, hf⟩ := fitL_cell hf
  obtain ⟨n, _, rfl, _, _, hf⟩ := fitL_int Tryd.underlying3 hf
  obtain rfl := fitL_nil hf
  obtain ⟨l, s, hl⟩ := fit_bytes Tryd.underlying29 Tryd.underlying5 (by kernel_rfl) (by kernel_rfl) hw
  exact ⟨w, n, l, rfl, s, hl, fit_cap Tryd.underlying29 hw⟩
end Go.Proofs.YtnpacofabdgcdaaDoor
