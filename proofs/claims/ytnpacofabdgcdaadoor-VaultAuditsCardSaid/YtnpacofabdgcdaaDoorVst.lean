/- A store's check: what the program and the document compute; no condition but those in the statements. -/
import Derived.Test.YtnpacofabdgcdaaDoorBase
namespace Go.Proofs.YtnpacofabdgcdaaDoor
open Go Go.V
set_option linter.unusedSimpArgs false
set_option linter.unusedVariables false
set_option maxRecDepth 100000
def bad1 (cs : List Value) (i : Nat) : Bool := decide (ci cs i < 0 ∨ 1073741824 < ci cs i)
def bad2 (cs : List Value) (i : Nat) : Bool := decide (ci cs (8 + i) < 0 ∨ 1048577 < ci cs (8 + i) ∨ (ci cs (8 + i) = 0 ∧ ¬ (ci cs (16 + i * 2) = 0 ∧ ci cs (16 + i * 2 + 1) = 0)))
def storeBad (cs : List Value) : Bool := (List.range 8).any fun i => bad1 cs i || bad2 cs i
theorem storeBad_of {cs : List Value} (i : Nat) (hi : i < 8) (hb : bad1 cs i = true ∨ bad2 cs i = true) : storeBad cs = true := by
  unfold storeBad
  rw [List.any_eq_true]
  exact ⟨i, List.mem_range.2 hi, by rcases hb with h | h <;> simp [h]⟩
theorem storeBad_not {cs : List Value} (h1 : ∀ i, i < 8 → bad1 cs i = false) (h2 : ∀ i, i < 8 → bad2 cs i = false) : storeBad cs = false := by
  unfold storeBad
  rw [List.any_eq_false]
  intro i hi
  have := List.mem_range.1 hi
  simp [h1 i this, h2 i this]
def storeT : List TypeId := rep 16 [3] ++ (rep 8 [26, 3] ++ rep 8 [4])
theorem vcheck_ok (T : World) (h : Hp) (cs : List Value) (hl : cs.length = 40) (hi64 : ∀ i, i < 32 → nth cs i = some (.int .i64 (ci cs i))) :
    CallsH Tryd.prog T 123 #[.agg cs.toArray] h fun v' h' => v' = .int .i64 (if storeBad cs = true then 5 else 0) ∧ h' = h.push (.cells cs.toArray 54) := by
  refine CallsH.of_code' (args := [_]) Tryd.func123 rfl rfl rfl rfl ?_
  simp (config := {contextual := true, maxSteps := 2000000, implicitDefEqProofs := false}) only [go_sem, ↓reduceIte, Nat.reduceEqDiff, Nat.reduceAdd, Nat.reduceMul, Nat.reduceLeDiff, Nat.reduceLT, Nat.reduceSub, IntWalk.iteOmega, IntWalk.toNatUp, reduceCtorEq, false_and, and_false, false_or, or_false, true_or, or_true, not_true_eq_false, not_false_eq_true, Bool.not_true, Bool.not_false, Bool.and_true, Bool.true_and, Bool.and_false, Bool.false_and, Bool.not_eq_true, beq_self_eq_true, Nat.add_zero, Int.reduceLE, Int.reduceLT, Int.reduceToNat, Int.reduceNeg, hl]
  refine VS.loop' (fun F g => g = h.push (.cells cs.toArray 54) ∧ F 1 = .pointer (some ⟨h.size, 0, none⟩) ∧ F 2 = .int .i64 0 ∧ F 8 = .agg (cs.take 8).toArray ∧ ∃ i : Nat, i ≤ 8 ∧ F 9 = .int .i64 i ∧ ∀ j, j < i → bad1 cs j = false)
    (fun F _ => 8 - (vi (F 9)).toNat) rfl ⟨rfl, rfl, rfl, rfl, 0, by omega, rfl, fun j hj => by omega⟩ ?_
  rintro F g ⟨rfl, f1, f2, f8, i, hi, f9, hb⟩
  by_cases hlt : i < 8
  · have hlt' : (i : Int) < 8 := by omega
    have e1 := hi64 i (by omega)
    by_cases c1 : ci cs i < 0
    · have hbad := storeBad_of (cs := cs) i hlt (.inl (by simp [bad1, c1]))
      simp (config := {contextual := true, maxSteps := 2000000, implicitDefEqProofs := false}) only [go_sem, ↓reduceIte, Nat.reduceEqDiff, Nat.reduceAdd, Nat.reduceMul, Nat.reduceLeDiff, Nat.reduceLT, Nat.reduceSub, IntWalk.iteOmega, IntWalk.toNatUp, reduceCtorEq, false_and, and_false, false_or, or_false, true_or, or_true, not_true_eq_false, not_false_eq_true, Bool.not_true, Bool.not_false, Bool.and_true, Bool.true_and, Bool.and_false, Bool.false_and, Bool.not_eq_true, beq_self_eq_true, Nat.add_zero, Int.reduceLE, Int.reduceLT, Int.reduceToNat, Int.reduceNeg, f1, f2, f8, f9, hlt', e1, c1, hbad]
    · by_cases c2 : 1073741824 < ci cs i
      · have hbad := storeBad_of (cs := cs) i hlt (.inl (by simp [bad1, c2]))
        simp (config := {contextual := true, maxSteps := 2000000, implicitDefEqProofs := false}) only [go_sem, ↓reduceIte, Nat.reduceEqDiff, Nat.reduceAdd, Nat.reduceMul, Nat.reduceLeDiff, Nat.reduceLT, Nat.reduceSub, IntWalk.iteOmega, IntWalk.toNatUp, reduceCtorEq, false_and, and_false, false_or, or_false, true_or, or_true, not_true_eq_false, not_false_eq_true, Bool.not_true, Bool.not_false, Bool.and_true, Bool.true_and, Bool.and_false, Bool.false_and, Bool.not_eq_true, beq_self_eq_true, Nat.add_zero, Int.reduceLE, Int.reduceLT, Int.reduceToNat, Int.reduceNeg, f1, f2, f8, f9, hlt', e1, c1, c2, hbad]
      · simp (config := {contextual := true, maxSteps := 2000000, implicitDefEqProofs := false}) only [go_sem, ↓reduceIte, Nat.reduceEqDiff, Nat.reduceAdd, Nat.reduceMul, Nat.reduceLeDiff, Nat.reduceLT, Nat.reduceSub, IntWalk.iteOmega, IntWalk.toNatUp, reduceCtorEq, false_and, and_false, false_or, or_false, true_or, or_true, not_true_eq_false, not_false_eq_true, Bool.not_true, Bool.not_false, Bool.and_true, Bool.true_and, Bool.and_false, Bool.false_and, Bool.not_eq_true, beq_self_eq_true, Nat.add_zero, Int.reduceLE, Int.reduceLT, Int.reduceToNat, Int.reduceNeg, f1, f2, f8, f9, hlt', e1, c1, c2]
        refine ⟨⟨rfl, f1, f2, f8, i + 1, hlt, rfl, fun j hj => ?_⟩, ?_⟩
        · by_cases hji : j = i
          · subst hji; simp [bad1]; omega
          · exact hb j (by omega)
        · simp only [vi, updo_some, ↓reduceIte, f9]; omega
  · have hge : ¬ (i : Int) < 8 := by omega
    obtain rfl : i = 8 := by omega
    simp (config := {contextual := true, maxSteps := 2000000, implicitDefEqProofs := false}) only [go_sem, ↓reduceIte, Nat.reduceEqDiff, Nat.reduceAdd, Nat.reduceMul, Nat.reduceLeDiff, Nat.reduceLT, Nat.reduceSub, IntWalk.iteOmega, IntWalk.toNatUp, reduceCtorEq, false_and, and_false, false_or, or_false, true_or, or_true, not_true_eq_false, not_false_eq_true, Bool.not_true, Bool.not_false, Bool.and_true, Bool.true_and, Bool.and_false, Bool.false_and, Bool.not_eq_true, beq_self_eq_true, Nat.add_zero, Int.reduceLE, Int.reduceLT, Int.reduceToNat, Int.reduceNeg, f1, f2, f8, f9, hge, hl]
    refine VS.loop' (fun F g => g = h.push (.cells cs.toArray 54) ∧ F 1 = .pointer (some ⟨h.size, 0, none⟩) ∧ F 2 = .int .i64 0 ∧ F 20 = .agg ((cs.drop 8).take 8).toArray ∧ ∃ i : Nat, i ≤ 8 ∧ F 21 = .int .i64 i ∧ ∀ j, j < i → bad2 cs j = false)
      (fun F _ => 8 - (vi (F 21)).toNat) rfl ⟨rfl, f1, f2, rfl, 0, by omega, rfl, fun j hj => by omega⟩ ?_
    clear f1 f2 f8 f9 F
    rintro F g ⟨rfl, f1, f2, f20, i, hi, f21, hb2⟩
    by_cases hlt : i < 8
    · have hlt' : (i : Int) < 8 := by omega
      have e1 := hi64 (8 + i) (by omega)
      have e2 := take_two (hi64 (16 + i * 2) (by omega)) (hi64 (16 + i * 2 + 1) (by omega))
      have goOn : bad2 cs i = false → ∀ j, j < i + 1 → bad2 cs j = false := fun h j hj => by
        by_cases hji : j = i
        · subst hji; exact h
        · exact hb2 j (by omega)
      by_cases c1 : ci cs (8 + i) < 0
      · have hbad := storeBad_of (cs := cs) i hlt (.inr (by simp [bad2, c1]))
        simp (config := {contextual := true, maxSteps := 2000000, implicitDefEqProofs := false}) only [go_sem, ↓reduceIte, Nat.reduceEqDiff, Nat.reduceAdd, Nat.reduceMul, Nat.reduceLeDiff, Nat.reduceLT, Nat.reduceSub, IntWalk.iteOmega, IntWalk.toNatUp, reduceCtorEq, false_and, and_false, false_or, or_false, true_or, or_true, not_true_eq_false, not_false_eq_true, Bool.not_true, Bool.not_false, Bool.and_true, Bool.true_and, Bool.and_false, Bool.false_and, Bool.not_eq_true, beq_self_eq_true, Nat.add_zero, Int.reduceLE, Int.reduceLT, Int.reduceToNat, Int.reduceNeg, f1, f2, f20, f21, hlt', e1, c1, hbad]
      · by_cases c2 : 1048577 < ci cs (8 + i)
        · have hbad := storeBad_of (cs := cs) i hlt (.inr (by simp [bad2, c2]))
          simp (config := {contextual := true, maxSteps := 2000000, implicitDefEqProofs := false}) only [go_sem, ↓reduceIte, Nat.reduceEqDiff, Nat.reduceAdd, Nat.reduceMul, Nat.reduceLeDiff, Nat.reduceLT, Nat.reduceSub, IntWalk.iteOmega, IntWalk.toNatUp, reduceCtorEq, false_and, and_false, false_or, or_false, true_or, or_true, not_true_eq_false, not_false_eq_true, Bool.not_true, Bool.not_false, Bool.and_true, Bool.true_and, Bool.and_false, Bool.false_and, Bool.not_eq_true, beq_self_eq_true, Nat.add_zero, Int.reduceLE, Int.reduceLT, Int.reduceToNat, Int.reduceNeg, f1, f2, f20, f21, hlt', e1, c1, c2, hbad]
        · by_cases c3 : ci cs (8 + i) = 0
          · by_cases c4 : ci cs (16 + i * 2) = 0
            · by_cases c5 : ci cs (16 + i * 2 + 1) = 0
              · simp (config := {contextual := true, maxSteps := 2000000, implicitDefEqProofs := false}) only [go_sem, ↓reduceIte, Nat.reduceEqDiff, Nat.reduceAdd, Nat.reduceMul, Nat.reduceLeDiff, Nat.reduceLT, Nat.reduceSub, IntWalk.iteOmega, IntWalk.toNatUp, reduceCtorEq, false_and, and_false, false_or, or_false, true_or, or_true, not_true_eq_false, not_false_eq_true, Bool.not_true, Bool.not_false, Bool.and_true, Bool.true_and, Bool.and_false, Bool.false_and, Bool.not_eq_true, beq_self_eq_true, Nat.add_zero, Int.reduceLE, Int.reduceLT, Int.reduceToNat, Int.reduceNeg, f1, f2, f20, f21, hlt', e1, c1, c2, c3, e2, c4, c5, hl]
                refine ⟨⟨rfl, f1, f2, f20, i + 1, hlt, rfl, goOn (by simp [bad2, c3, c4, c5])⟩, ?_⟩
                simp only [vi, updo_some, ↓reduceIte, f21]; omega
              · have hbad := storeBad_of (cs := cs) i hlt (.inr (by simp [bad2, c3, c5]))
                simp (config := {contextual := true, maxSteps := 2000000, implicitDefEqProofs := false}) only [go_sem, ↓reduceIte, Nat.reduceEqDiff, Nat.reduceAdd, Nat.reduceMul, Nat.reduceLeDiff, Nat.reduceLT, Nat.reduceSub, IntWalk.iteOmega, IntWalk.toNatUp, reduceCtorEq, false_and, and_false, false_or, or_false, true_or, or_true, not_true_eq_false, not_false_eq_true, Bool.not_true, Bool.not_false, Bool.and_true, Bool.true_and, Bool.and_false, Bool.false_and, Bool.not_eq_true, beq_self_eq_true, Nat.add_zero, Int.reduceLE, Int.reduceLT, Int.reduceToNat, Int.reduceNeg, f1, f2, f20, f21, hlt', e1, c1, c2, c3, e2, c4, c5, hl, hbad]
            · have hbad := storeBad_of (cs := cs) i hlt (.inr (by simp [bad2, c3, c4]))
              simp (config := {contextual := true, maxSteps := 2000000, implicitDefEqProofs := false}) only [go_sem, ↓reduceIte, Nat.reduceEqDiff, Nat.reduceAdd, Nat.reduceMul, Nat.reduceLeDiff, Nat.reduceLT, Nat.reduceSub, IntWalk.iteOmega, IntWalk.toNatUp, reduceCtorEq, false_and, and_false, false_or, or_false, true_or, or_true, not_true_eq_false, not_false_eq_true, Bool.not_true, Bool.not_false, Bool.and_true, Bool.true_and, Bool.and_false, Bool.false_and, Bool.not_eq_true, beq_self_eq_true, Nat.add_zero, Int.reduceLE, Int.reduceLT, Int.reduceToNat, Int.reduceNeg, f1, f2, f20, f21, hlt', e1, c1, c2, c3, e2, c4, hl, hbad]
          · simp (config := {contextual := true, maxSteps := 2000000, implicitDefEqProofs := false}) only [go_sem, ↓reduceIte, Nat.reduceEqDiff, Nat.reduceAdd, Nat.reduceMul, Nat.reduceLeDiff, Nat.reduceLT, Nat.reduceSub, IntWalk.iteOmega, IntWalk.toNatUp, reduceCtorEq, false_and, and_false, false_or, or_false, true_or, or_true, not_true_eq_false, not_false_eq_true, Bool.not_true, Bool.not_false, Bool.and_true, Bool.true_and, Bool.and_false, Bool.false_and, Bool.not_eq_true, beq_self_eq_true, Nat.add_zero, Int.reduceLE, Int.reduceLT, Int.reduceToNat, Int.reduceNeg, f1, f2, f20, f21, hlt', e1, c1, c2, c3]
            refine ⟨⟨rfl, f1, f2, f20, i + 1, hlt, rfl, goOn (by simp [bad2]; omega)⟩, ?_⟩
            simp only [vi, updo_some, ↓reduceIte, f21]; omega
    · have hge : ¬ (i : Int) < 8 := by omega
      obtain rfl : i = 8 := by omega
      have hbad := storeBad_not hb hb2
      simp (config := {contextual := true, maxSteps := 2000000, implicitDefEqProofs := false}) only [go_sem, ↓reduceIte, Nat.reduceEqDiff, Nat.reduceAdd, Nat.reduceMul, Nat.reduceLeDiff, Nat.reduceLT, Nat.reduceSub, IntWalk.iteOmega, IntWalk.toNatUp, reduceCtorEq, false_and, and_false, false_or, or_false, true_or, or_true, not_true_eq_false, not_false_eq_true, Bool.not_true, Bool.not_false, Bool.and_true, Bool.true_and, Bool.and_false, Bool.false_and, Bool.not_eq_true, beq_self_eq_true, Nat.add_zero, Int.reduceLE, Int.reduceLT, Int.reduceToNat, Int.reduceNeg, f1, f2, f20, f21, hge, hbad]
theorem storeFault_ok (T : World) (h : Hp) (cs : List Value) (hl : cs.length = 40) (hi64 : ∀ i, i < 32 → nth cs i = some (.int .i64 (ci cs i))) :
    CallsH Tryd.prog T 125 #[.agg cs.toArray] h fun v' h' => v' = .int .i64 (if storeBad cs = true then 5 else 0) ∧ h' = h.push (.cells cs.toArray 54) := by
  refine CallsH.of_code' (args := [_]) Tryd.func125 rfl rfl rfl rfl ?_
  simp (config := {contextual := true, maxSteps := 2000000, implicitDefEqProofs := false}) only [go_sem, ↓reduceIte, Nat.reduceEqDiff, Nat.reduceAdd, Nat.reduceMul, Nat.reduceLeDiff, Nat.reduceLT, Nat.reduceSub, IntWalk.iteOmega, IntWalk.toNatUp, reduceCtorEq, false_and, and_false, false_or, or_false, true_or, or_true, not_true_eq_false, not_false_eq_true, Bool.not_true, Bool.not_false, Bool.and_true, Bool.true_and, Bool.and_false, Bool.false_and, Bool.not_eq_true, beq_self_eq_true, Nat.add_zero, Int.reduceLE, Int.reduceLT, Int.reduceToNat, Int.reduceNeg, hl]
  refine VS.loop' (fun F g => g = h.push (.cells cs.toArray 54) ∧ F 1 = .pointer (some ⟨h.size, 0, none⟩) ∧ F 2 = .int .i64 0 ∧ ∃ i : Nat, i ≤ 8 ∧ F 3 = .int .i64 i ∧ ∀ j, j < i → bad1 cs j = false ∧ bad2 cs j = false)
    (fun F _ => 8 - (vi (F 3)).toNat) rfl ⟨rfl, rfl, rfl, 0, by omega, rfl, fun j hj => by omega⟩ ?_
  rintro F g ⟨rfl, f1, f2, i, hi, f3, hb⟩
  by_cases hlt : i < 8
  · have hlt' : (i : Int) < 8 := by omega
    have e1 := hi64 i (by omega)
    have e2 := hi64 (8 + i) (by omega)
    have e3 := hi64 (16 + i * 2) (by omega)
    have e4 := hi64 (16 + i * 2 + 1) (by omega)
    have goOn : bad1 cs i = false → bad2 cs i = false → ∀ j, j < i + 1 → bad1 cs j = false ∧ bad2 cs j = false := fun h h2 j hj => by
      by_cases hji : j = i
      · subst hji; exact ⟨h, h2⟩
      · exact hb j (by omega)
    by_cases c1 : 0 ≤ ci cs i ∧ ci cs i ≤ 1073741824
    · have q1 : bad1 cs i = false := by simp [bad1]; omega
      by_cases c2 : 0 ≤ ci cs (8 + i) ∧ ci cs (8 + i) ≤ 1048577
      · simp (config := {contextual := true, maxSteps := 2000000, implicitDefEqProofs := false}) only [go_sem, ↓reduceIte, Nat.reduceEqDiff, Nat.reduceAdd, Nat.reduceMul, Nat.reduceLeDiff, Nat.reduceLT, Nat.reduceSub, IntWalk.iteOmega, IntWalk.toNatUp, reduceCtorEq, false_and, and_false, false_or, or_false, true_or, or_true, not_true_eq_false, not_false_eq_true, Bool.not_true, Bool.not_false, Bool.and_true, Bool.true_and, Bool.and_false, Bool.false_and, Bool.not_eq_true, beq_self_eq_true, Nat.add_zero, Int.reduceLE, Int.reduceLT, Int.reduceToNat, Int.reduceNeg, f1, f2, f3, hlt', e1]
        refine (in_ok T _ _ _ _).pure ?_
        simp (config := {contextual := true, maxSteps := 2000000, implicitDefEqProofs := false}) only [go_sem, ↓reduceIte, Nat.reduceEqDiff, Nat.reduceAdd, Nat.reduceMul, Nat.reduceLeDiff, Nat.reduceLT, Nat.reduceSub, IntWalk.iteOmega, IntWalk.toNatUp, reduceCtorEq, false_and, and_false, false_or, or_false, true_or, or_true, not_true_eq_false, not_false_eq_true, Bool.not_true, Bool.not_false, Bool.and_true, Bool.true_and, Bool.and_false, Bool.false_and, Bool.not_eq_true, beq_self_eq_true, Nat.add_zero, Int.reduceLE, Int.reduceLT, Int.reduceToNat, Int.reduceNeg, f1, f2, f3, hlt', e1, c1, e2]
        refine (in_ok T _ _ _ _).pure ?_
        by_cases c3 : ci cs (8 + i) = 0
        · by_cases c4 : ci cs (16 + i * 2) = 0
          · by_cases c5 : ci cs (16 + i * 2 + 1) = 0
            · simp (config := {contextual := true, maxSteps := 2000000, implicitDefEqProofs := false}) only [go_sem, ↓reduceIte, Nat.reduceEqDiff, Nat.reduceAdd, Nat.reduceMul, Nat.reduceLeDiff, Nat.reduceLT, Nat.reduceSub, IntWalk.iteOmega, IntWalk.toNatUp, reduceCtorEq, false_and, and_false, false_or, or_false, true_or, or_true, not_true_eq_false, not_false_eq_true, Bool.not_true, Bool.not_false, Bool.and_true, Bool.true_and, Bool.and_false, Bool.false_and, Bool.not_eq_true, beq_self_eq_true, Nat.add_zero, Int.reduceLE, Int.reduceLT, Int.reduceToNat, Int.reduceNeg, f1, f2, f3, hlt', e1, c2, c3, e2, e3, e4, c4, c5]
              refine ⟨⟨rfl, f1, f2, i + 1, hlt, rfl, goOn q1 (by simp [bad2, c3, c4, c5])⟩, ?_⟩
              simp only [vi, updo_some, ↓reduceIte, f3]; omega
            · have hbad := storeBad_of (cs := cs) i hlt (.inr (by simp [bad2, c3, c5]))
              simp (config := {contextual := true, maxSteps := 2000000, implicitDefEqProofs := false}) only [go_sem, ↓reduceIte, Nat.reduceEqDiff, Nat.reduceAdd, Nat.reduceMul, Nat.reduceLeDiff, Nat.reduceLT, Nat.reduceSub, IntWalk.iteOmega, IntWalk.toNatUp, reduceCtorEq, false_and, and_false, false_or, or_false, true_or, or_true, not_true_eq_false, not_false_eq_true, Bool.not_true, Bool.not_false, Bool.and_true, Bool.true_and, Bool.and_false, Bool.false_and, Bool.not_eq_true, beq_self_eq_true, Nat.add_zero, Int.reduceLE, Int.reduceLT, Int.reduceToNat, Int.reduceNeg, f1, f2, f3, hlt', e1, c2, c3, e2, e3, e4, c4, c5, hbad]
          · have hbad := storeBad_of (cs := cs) i hlt (.inr (by simp [bad2, c3, c4]))
            simp (config := {contextual := true, maxSteps := 2000000, implicitDefEqProofs := false}) only [go_sem, ↓reduceIte, Nat.reduceEqDiff, Nat.reduceAdd, Nat.reduceMul, Nat.reduceLeDiff, Nat.reduceLT, Nat.reduceSub, IntWalk.iteOmega, IntWalk.toNatUp, reduceCtorEq, false_and, and_false, false_or, or_false, true_or, or_true, not_true_eq_false, not_false_eq_true, Bool.not_true, Bool.not_false, Bool.and_true, Bool.true_and, Bool.and_false, Bool.false_and, Bool.not_eq_true, beq_self_eq_true, Nat.add_zero, Int.reduceLE, Int.reduceLT, Int.reduceToNat, Int.reduceNeg, f1, f2, f3, hlt', e1, c2, c3, e2, e3, e4, c4, hbad]
        · simp (config := {contextual := true, maxSteps := 2000000, implicitDefEqProofs := false}) only [go_sem, ↓reduceIte, Nat.reduceEqDiff, Nat.reduceAdd, Nat.reduceMul, Nat.reduceLeDiff, Nat.reduceLT, Nat.reduceSub, IntWalk.iteOmega, IntWalk.toNatUp, reduceCtorEq, false_and, and_false, false_or, or_false, true_or, or_true, not_true_eq_false, not_false_eq_true, Bool.not_true, Bool.not_false, Bool.and_true, Bool.true_and, Bool.and_false, Bool.false_and, Bool.not_eq_true, beq_self_eq_true, Nat.add_zero, Int.reduceLE, Int.reduceLT, Int.reduceToNat, Int.reduceNeg, f1, f2, f3, hlt', e1, c2, c3, e2]
          refine ⟨⟨rfl, f1, f2, i + 1, hlt, rfl, goOn q1 (by simp [bad2]; omega)⟩, ?_⟩
          simp only [vi, updo_some, ↓reduceIte, f3]; omega
      · have hbad := storeBad_of (cs := cs) i hlt (.inr (by simp [bad2]; omega))
        simp (config := {contextual := true, maxSteps := 2000000, implicitDefEqProofs := false}) only [go_sem, ↓reduceIte, Nat.reduceEqDiff, Nat.reduceAdd, Nat.reduceMul, Nat.reduceLeDiff, Nat.reduceLT, Nat.reduceSub, IntWalk.iteOmega, IntWalk.toNatUp, reduceCtorEq, false_and, and_false, false_or, or_false, true_or, or_true, not_true_eq_false, not_false_eq_true, Bool.not_true, Bool.not_false, Bool.and_true, Bool.true_and, Bool.and_false, Bool.false_and, Bool.not_eq_true, beq_self_eq_true, Nat.add_zero, Int.reduceLE, Int.reduceLT, Int.reduceToNat, Int.reduceNeg, f1, f2, f3, hlt', e1]
        refine (in_ok T _ _ _ _).pure ?_
        simp (config := {contextual := true, maxSteps := 2000000, implicitDefEqProofs := false}) only [go_sem, ↓reduceIte, Nat.reduceEqDiff, Nat.reduceAdd, Nat.reduceMul, Nat.reduceLeDiff, Nat.reduceLT, Nat.reduceSub, IntWalk.iteOmega, IntWalk.toNatUp, reduceCtorEq, false_and, and_false, false_or, or_false, true_or, or_true, not_true_eq_false, not_false_eq_true, Bool.not_true, Bool.not_false, Bool.and_true, Bool.true_and, Bool.and_false, Bool.false_and, Bool.not_eq_true, beq_self_eq_true, Nat.add_zero, Int.reduceLE, Int.reduceLT, Int.reduceToNat, Int.reduceNeg, f1, f2, f3, hlt', e1, c1, e2]
        refine (in_ok T _ _ _ _).pure ?_
        simp (config := {contextual := true, maxSteps := 2000000, implicitDefEqProofs := false}) only [go_sem, ↓reduceIte, Nat.reduceEqDiff, Nat.reduceAdd, Nat.reduceMul, Nat.reduceLeDiff, Nat.reduceLT, Nat.reduceSub, IntWalk.iteOmega, IntWalk.toNatUp, reduceCtorEq, false_and, and_false, false_or, or_false, true_or, or_true, not_true_eq_false, not_false_eq_true, Bool.not_true, Bool.not_false, Bool.and_true, Bool.true_and, Bool.and_false, Bool.false_and, Bool.not_eq_true, beq_self_eq_true, Nat.add_zero, Int.reduceLE, Int.reduceLT, Int.reduceToNat, Int.reduceNeg, f1, f2, f3, hlt', c2, hbad]
    · have hbad := storeBad_of (cs := cs) i hlt (.inl (by simp [bad1]; omega))
      simp (config := {contextual := true, maxSteps := 2000000, implicitDefEqProofs := false}) only [go_sem, ↓reduceIte, Nat.reduceEqDiff, Nat.reduceAdd, Nat.reduceMul, Nat.reduceLeDiff, Nat.reduceLT, Nat.reduceSub, IntWalk.iteOmega, IntWalk.toNatUp, reduceCtorEq, false_and, and_false, false_or, or_false, true_or, or_true, not_true_eq_false, not_false_eq_true, Bool.not_true, Bool.not_false, Bool.and_true, Bool.true_and, Bool.and_false, Bool.false_and, Bool.not_eq_true, beq_self_eq_true, Nat.add_zero, Int.reduceLE, Int.reduceLT, Int.reduceToNat, Int.reduceNeg, f1, f2, f3, hlt', e1]
      refine (in_ok T _ _ _ _).pure ?_
      simp (config := {contextual := true, maxSteps := 2000000, implicitDefEqProofs := false}) only [go_sem, ↓reduceIte, Nat.reduceEqDiff, Nat.reduceAdd, Nat.reduceMul, Nat.reduceLeDiff, Nat.reduceLT, Nat.reduceSub, IntWalk.iteOmega, IntWalk.toNatUp, reduceCtorEq, false_and, and_false, false_or, or_false, true_or, or_true, not_true_eq_false, not_false_eq_true, Bool.not_true, Bool.not_false, Bool.and_true, Bool.true_and, Bool.and_false, Bool.false_and, Bool.not_eq_true, beq_self_eq_true, Nat.add_zero, Int.reduceLE, Int.reduceLT, Int.reduceToNat, Int.reduceNeg, f1, f2, f3, hlt', c1, hbad]
  · have hge : ¬ (i : Int) < 8 := by omega
    obtain rfl : i = 8 := by omega
    have hbad := storeBad_not (fun j hj => (hb j hj).1) (fun j hj => (hb j hj).2)
    simp (config := {contextual := true, maxSteps := 2000000, implicitDefEqProofs := false}) only [go_sem, ↓reduceIte, Nat.reduceEqDiff, Nat.reduceAdd, Nat.reduceMul, Nat.reduceLeDiff, Nat.reduceLT, Nat.reduceSub, IntWalk.iteOmega, IntWalk.toNatUp, reduceCtorEq, false_and, and_false, false_or, or_false, true_or, or_true, not_true_eq_false, not_false_eq_true, Bool.not_true, Bool.not_false, Bool.and_true, Bool.true_and, Bool.and_false, Bool.false_and, Bool.not_eq_true, beq_self_eq_true, Nat.add_zero, Int.reduceLE, Int.reduceLT, Int.reduceToNat, Int.reduceNeg, f1, f2, f3, hge, hbad]
end Go.Proofs.YtnpacofabdgcdaaDoor
