/- StableSyncs holds: stable.Sync answers what the document says, at every argument, and changes none of them; without any condition. -/
import Derived.Test.YtjgbajgmndkfjaaBytes
import Derived.Test.YtjgbajgmndkfjaaW5
namespace Go.Proofs.Ytjgbajgmndkfjaa
open Go Go.V
set_option linter.unusedSimpArgs false
set_option linter.unusedVariables false
set_option maxRecDepth 100000
theorem tapes_ok (T : World) (h : Hp) (v : Value) (n : Int) (l : List Nat) (s : Bs h v l) (hl : l.length ≤ 140737488355328) :
    CallsH Try.prog T 42 #[.agg [v, .int .i64 n].toArray] h fun v' h' => ∃ w, v' = .agg [w, .int .i64 n].toArray ∧ OBs h.size 5 h' w l ∧ Bel h.size h h' := by
  obtain ⟨p, c, rfl, hc1⟩ := s.open
  refine CallsH.of_code' (args := [_]) Try.func42 rfl rfl rfl rfl ?_
  simp (config := {contextual := true, maxSteps := 2000000}) only [go_sem, ↓reduceIte, Nat.reduceEqDiff, Nat.reduceAdd, Nat.reduceMul, Nat.reduceLeDiff, Nat.reduceLT, Nat.reduceSub, IntWalk.iteOmega, IntWalk.toNatUp, reduceCtorEq, false_and, and_false, false_or, or_false, true_or, or_true, not_true_eq_false, not_false_eq_true, Bool.not_true, Bool.not_false, Bool.and_true, Bool.true_and, Bool.and_false, Bool.false_and, Bool.not_eq_true, beq_self_eq_true, Nat.add_zero, Int.reduceLE, Int.reduceLT, Int.reduceToNat, Int.reduceNeg]
  refine VS.b (h.size + 1) [(0, true), (1, true), (3, true), (4, true), (2, false), (5, true), (6, false)] mixed (by kernel_rfl) ?_
  simp (config := {contextual := true, maxSteps := 2000000}) only [go_sem, ↓reduceIte, Nat.reduceEqDiff, Nat.reduceAdd, Nat.reduceMul, Nat.reduceLeDiff, Nat.reduceLT, Nat.reduceSub, IntWalk.iteOmega, IntWalk.toNatUp, reduceCtorEq, false_and, and_false, false_or, or_false, true_or, or_true, not_true_eq_false, not_false_eq_true, Bool.not_true, Bool.not_false, Bool.and_true, Bool.true_and, Bool.and_false, Bool.false_and, Bool.not_eq_true, beq_self_eq_true, Nat.add_zero, Int.reduceLE, Int.reduceLT, Int.reduceToNat, Int.reduceNeg]
  refine (octets_ok T _ _ l (s.bel (((Bel.refl _ _).add _).add _)) hl).use ?_
  rintro v1 h1 ⟨o1, b1⟩
  have z1 : h.size + 1 < h1.size := by have := b1.size; simp at this; omega
  have r1 := b1.get (k := h.size + 1) (by simp) (by rw [Array.getElem?_push, if_pos (by simp)])
  have w1 := wr_get r1
  obtain ⟨p1, c1, rfl, _⟩ := o1.bs.open
  simp (config := {contextual := true, maxSteps := 2000000}) only [go_sem, ↓reduceIte, Nat.reduceEqDiff, Nat.reduceAdd, Nat.reduceMul, Nat.reduceLeDiff, Nat.reduceLT, Nat.reduceSub, IntWalk.iteOmega, IntWalk.toNatUp, reduceCtorEq, false_and, and_false, false_or, or_false, true_or, or_true, not_true_eq_false, not_false_eq_true, Bool.not_true, Bool.not_false, Bool.and_true, Bool.true_and, Bool.and_false, Bool.false_and, Bool.not_eq_true, beq_self_eq_true, Nat.add_zero, Int.reduceLE, Int.reduceLT, Int.reduceToNat, Int.reduceNeg, w1, z1]
  have c0 : Bel (h.size + 1) _ h1 := b1.mono (by simp)
  refine ⟨c0, c0.addSet (Nat.le_refl _) _, _, rfl, ?_, ?_⟩
  · exact (o1.setLow (by simp) _).mono (by simp; omega)
  · exact (((Bel.refl _ _).add _).add _ |>.trans (b1.mono (by simp; omega))).addSet (by omega) _
theorem tapeMay_ok (T : World) (h : Hp) (p : Option Addr) (m c : Nat) (n : Int) :
    CallsH Try.prog T 96 #[.agg [.slice p m c, .int .i64 n].toArray] h fun v' h' => v' = .bool (decide (m ≤ 100000 ∧ 0 ≤ n ∧ n ≤ m)) ∧ h' = h.push (.cells [.slice p m c, .int .i64 n].toArray 52) := by
  refine CallsH.of_code' (args := [_]) Try.func96 rfl rfl rfl rfl ?_
  by_cases h1 : (m : Int) ≤ 100000
  · simp (config := {contextual := true, maxSteps := 2000000}) only [go_sem, ↓reduceIte, Nat.reduceEqDiff, Nat.reduceAdd, Nat.reduceMul, Nat.reduceLeDiff, Nat.reduceLT, Nat.reduceSub, IntWalk.iteOmega, IntWalk.toNatUp, reduceCtorEq, false_and, and_false, false_or, or_false, true_or, or_true, not_true_eq_false, not_false_eq_true, Bool.not_true, Bool.not_false, Bool.and_true, Bool.true_and, Bool.and_false, Bool.false_and, Bool.not_eq_true, beq_self_eq_true, Nat.add_zero, Int.reduceLE, Int.reduceLT, Int.reduceToNat, Int.reduceNeg, h1]
    refine (in_ok T _ _ _ _).pure ?_
    simp (config := {contextual := true, maxSteps := 2000000}) only [go_sem, ↓reduceIte, Nat.reduceEqDiff, Nat.reduceAdd, Nat.reduceMul, Nat.reduceLeDiff, Nat.reduceLT, Nat.reduceSub, IntWalk.iteOmega, IntWalk.toNatUp, reduceCtorEq, false_and, and_false, false_or, or_false, true_or, or_true, not_true_eq_false, not_false_eq_true, Bool.not_true, Bool.not_false, Bool.and_true, Bool.true_and, Bool.and_false, Bool.false_and, Bool.not_eq_true, beq_self_eq_true, Nat.add_zero, Int.reduceLE, Int.reduceLT, Int.reduceToNat, Int.reduceNeg, h1]
    have : m ≤ 100000 := by omega
    simp [this]
  · simp (config := {contextual := true, maxSteps := 2000000}) only [go_sem, ↓reduceIte, Nat.reduceEqDiff, Nat.reduceAdd, Nat.reduceMul, Nat.reduceLeDiff, Nat.reduceLT, Nat.reduceSub, IntWalk.iteOmega, IntWalk.toNatUp, reduceCtorEq, false_and, and_false, false_or, or_false, true_or, or_true, not_true_eq_false, not_false_eq_true, Bool.not_true, Bool.not_false, Bool.and_true, Bool.true_and, Bool.and_false, Bool.false_and, Bool.not_eq_true, beq_self_eq_true, Nat.add_zero, Int.reduceLE, Int.reduceLT, Int.reduceToNat, Int.reduceNeg, h1]
    have : ¬ m ≤ 100000 := by omega
    simp [this]
theorem open_ok (T : World) (h : Hp) (v : Value) (n : Int) (l : List Nat) (s : Bs h v l) (hl : l.length ≤ 140737488355328) :
    CallsH Try.prog T 95 #[.agg [v, .int .i64 n].toArray] h fun v' h' => Bel h.size h h' ∧
      (if l.length ≤ 100000 ∧ 0 ≤ n ∧ n ≤ l.length then ∃ w, v' = .tuple [.agg [w, .int .i64 n].toArray, .bool true].toArray ∧ OBs h.size 5 h' w l
        else v' = .tuple [.agg [.slice none 0 0, .int .i64 0].toArray, .bool false].toArray) := by
  obtain ⟨p, c, rfl, hc1⟩ := s.open
  refine CallsH.of_code' (args := [_]) Try.func95 rfl rfl rfl rfl ?_
  by_cases q1 : n < 0
  · have q : ¬ (l.length ≤ 100000 ∧ 0 ≤ n ∧ n ≤ l.length) := by omega
    simp (config := {contextual := true, maxSteps := 2000000}) only [go_sem, ↓reduceIte, Nat.reduceEqDiff, Nat.reduceAdd, Nat.reduceMul, Nat.reduceLeDiff, Nat.reduceLT, Nat.reduceSub, IntWalk.iteOmega, IntWalk.toNatUp, reduceCtorEq, false_and, and_false, false_or, or_false, true_or, or_true, not_true_eq_false, not_false_eq_true, Bool.not_true, Bool.not_false, Bool.and_true, Bool.true_and, Bool.and_false, Bool.false_and, Bool.not_eq_true, beq_self_eq_true, Nat.add_zero, Int.reduceLE, Int.reduceLT, Int.reduceToNat, Int.reduceNeg, q1, q]
    exact ((Bel.refl _ _).add _).add _
  · by_cases q2 : (l.length : Int) < n
    · have q : ¬ (l.length ≤ 100000 ∧ 0 ≤ n ∧ n ≤ l.length) := by omega
      simp (config := {contextual := true, maxSteps := 2000000}) only [go_sem, ↓reduceIte, Nat.reduceEqDiff, Nat.reduceAdd, Nat.reduceMul, Nat.reduceLeDiff, Nat.reduceLT, Nat.reduceSub, IntWalk.iteOmega, IntWalk.toNatUp, reduceCtorEq, false_and, and_false, false_or, or_false, true_or, or_true, not_true_eq_false, not_false_eq_true, Bool.not_true, Bool.not_false, Bool.and_true, Bool.true_and, Bool.and_false, Bool.false_and, Bool.not_eq_true, beq_self_eq_true, Nat.add_zero, Int.reduceLE, Int.reduceLT, Int.reduceToNat, Int.reduceNeg, q1, q2, q]
      exact ((Bel.refl _ _).add _).add _
    · by_cases q3 : (100000 : Int) < l.length
      · have q : ¬ (l.length ≤ 100000 ∧ 0 ≤ n ∧ n ≤ l.length) := by omega
        simp (config := {contextual := true, maxSteps := 2000000}) only [go_sem, ↓reduceIte, Nat.reduceEqDiff, Nat.reduceAdd, Nat.reduceMul, Nat.reduceLeDiff, Nat.reduceLT, Nat.reduceSub, IntWalk.iteOmega, IntWalk.toNatUp, reduceCtorEq, false_and, and_false, false_or, or_false, true_or, or_true, not_true_eq_false, not_false_eq_true, Bool.not_true, Bool.not_false, Bool.and_true, Bool.true_and, Bool.and_false, Bool.false_and, Bool.not_eq_true, beq_self_eq_true, Nat.add_zero, Int.reduceLE, Int.reduceLT, Int.reduceToNat, Int.reduceNeg, q1, q2, q3, q]
        exact ((Bel.refl _ _).add _).add _
      · have q : (l.length ≤ 100000 ∧ 0 ≤ n ∧ n ≤ l.length) := by omega
        simp (config := {contextual := true, maxSteps := 2000000}) only [go_sem, ↓reduceIte, Nat.reduceEqDiff, Nat.reduceAdd, Nat.reduceMul, Nat.reduceLeDiff, Nat.reduceLT, Nat.reduceSub, IntWalk.iteOmega, IntWalk.toNatUp, reduceCtorEq, false_and, and_false, false_or, or_false, true_or, or_true, not_true_eq_false, not_false_eq_true, Bool.not_true, Bool.not_false, Bool.and_true, Bool.true_and, Bool.and_false, Bool.false_and, Bool.not_eq_true, beq_self_eq_true, Nat.add_zero, Int.reduceLE, Int.reduceLT, Int.reduceToNat, Int.reduceNeg, q1, q2, q3]
        refine VS.b (h.size + 1) [(0, true), (1, true), (3, true), (4, true), (2, false), (5, true), (6, false), (7, true)] mixed (by kernel_rfl) ?_
        simp (config := {contextual := true, maxSteps := 2000000}) only [go_sem, ↓reduceIte, Nat.reduceEqDiff, Nat.reduceAdd, Nat.reduceMul, Nat.reduceLeDiff, Nat.reduceLT, Nat.reduceSub, IntWalk.iteOmega, IntWalk.toNatUp, reduceCtorEq, false_and, and_false, false_or, or_false, true_or, or_true, not_true_eq_false, not_false_eq_true, Bool.not_true, Bool.not_false, Bool.and_true, Bool.true_and, Bool.and_false, Bool.false_and, Bool.not_eq_true, beq_self_eq_true, Nat.add_zero, Int.reduceLE, Int.reduceLT, Int.reduceToNat, Int.reduceNeg, q1, q2, q3]
        refine (clone_ok T _ _ l (s.bel (((Bel.refl _ _).add _).add _)) hl).use ?_
        rintro v1 h1 ⟨o1, b1⟩
        have z1 : h.size + 1 < h1.size := by have := b1.size; simp at this; omega
        have r1 := b1.get (k := h.size + 1) (by simp) (by rw [Array.getElem?_push, if_pos (by simp)])
        have w1 := wr_get r1
        obtain ⟨p1, c1, rfl, _⟩ := o1.bs.open
        simp (config := {contextual := true, maxSteps := 2000000}) only [go_sem, ↓reduceIte, Nat.reduceEqDiff, Nat.reduceAdd, Nat.reduceMul, Nat.reduceLeDiff, Nat.reduceLT, Nat.reduceSub, IntWalk.iteOmega, IntWalk.toNatUp, reduceCtorEq, false_and, and_false, false_or, or_false, true_or, or_true, not_true_eq_false, not_false_eq_true, Bool.not_true, Bool.not_false, Bool.and_true, Bool.true_and, Bool.and_false, Bool.false_and, Bool.not_eq_true, beq_self_eq_true, Nat.add_zero, Int.reduceLE, Int.reduceLT, Int.reduceToNat, Int.reduceNeg, w1, z1]
        have c0 : Bel (h.size + 1) _ h1 := b1.mono (by simp)
        refine ⟨c0, c0.addSet (Nat.le_refl _) _, ?_, _, rfl, ?_⟩
        · exact (((Bel.refl _ _).add _).add _ |>.trans (b1.mono (by simp; omega))).addSet (by omega) _
        · exact (o1.setLow (by simp) _).mono (by simp; omega)
/-- What syncing a tape answers. -/
def Synced (B : Nat) (h' : Hp) (v' : Value) (l : List Nat) (n : Int) : Prop :=
  if l.length ≤ 100000 ∧ 0 ≤ n ∧ n ≤ l.length then ∃ w, v' = .tuple [.agg [w, .int .i64 l.length].toArray, .int .i64 0].toArray ∧ OBs B 5 h' w l
  else v' = .tuple [.agg [.slice none 0 0, .int .i64 0].toArray, .int .i64 5].toArray
theorem sync_ok (T : World) (h : Hp) (v : Value) (n : Int) (l : List Nat) (s : Bs h v l) (hl : l.length ≤ 140737488355328) :
    CallsH Try.prog T 43 #[.agg [v, .int .i64 n].toArray] h fun v' h' => Bel h.size h h' ∧ Synced h.size h' v' l n := by
  obtain ⟨p, c, rfl, hc1⟩ := s.open
  refine CallsH.of_code' (args := [_]) Try.func43 rfl rfl rfl rfl ?_
  simp (config := {contextual := true, maxSteps := 2000000}) only [go_sem, ↓reduceIte, Nat.reduceEqDiff, Nat.reduceAdd, Nat.reduceMul, Nat.reduceLeDiff, Nat.reduceLT, Nat.reduceSub, IntWalk.iteOmega, IntWalk.toNatUp, reduceCtorEq, false_and, and_false, false_or, or_false, true_or, or_true, not_true_eq_false, not_false_eq_true, Bool.not_true, Bool.not_false, Bool.and_true, Bool.true_and, Bool.and_false, Bool.false_and, Bool.not_eq_true, beq_self_eq_true, Nat.add_zero, Int.reduceLE, Int.reduceLT, Int.reduceToNat, Int.reduceNeg]
  refine (open_ok T _ _ n l (s.bel (((Bel.refl _ _).add _).add _)) hl).use ?_
  rintro v1 h1 ⟨b1, o1⟩
  have z1 : h.size + 1 < h1.size := by have := b1.size; simp at this; omega
  have r1 := b1.get (k := h.size + 1) (by simp) (by rw [Array.getElem?_push, if_pos (by simp)])
  have w1 := wr_get r1
  have bb : Bel h.size h h1 := ((Bel.refl _ _).add _).add _ |>.trans (b1.mono (by simp; omega))
  unfold Synced
  by_cases q : l.length ≤ 100000 ∧ 0 ≤ n ∧ n ≤ l.length
  · rw [if_pos q] at o1
    obtain ⟨w, rfl, o1⟩ := o1
    obtain ⟨p1, c1, rfl, _⟩ := o1.bs.open
    simp (config := {contextual := true, maxSteps := 2000000}) only [go_sem, ↓reduceIte, Nat.reduceEqDiff, Nat.reduceAdd, Nat.reduceMul, Nat.reduceLeDiff, Nat.reduceLT, Nat.reduceSub, IntWalk.iteOmega, IntWalk.toNatUp, reduceCtorEq, false_and, and_false, false_or, or_false, true_or, or_true, not_true_eq_false, not_false_eq_true, Bool.not_true, Bool.not_false, Bool.and_true, Bool.true_and, Bool.and_false, Bool.false_and, Bool.not_eq_true, beq_self_eq_true, Nat.add_zero, Int.reduceLE, Int.reduceLT, Int.reduceToNat, Int.reduceNeg, w1, z1]
    refine ⟨(bb.addSet (by omega) _).add _, _, rfl, ?_⟩
    exact ((o1.setLow (by simp) _).push _).mono (by simp; omega)
  · rw [if_neg q] at o1
    subst o1
    simp (config := {contextual := true, maxSteps := 2000000}) only [go_sem, ↓reduceIte, Nat.reduceEqDiff, Nat.reduceAdd, Nat.reduceMul, Nat.reduceLeDiff, Nat.reduceLT, Nat.reduceSub, IntWalk.iteOmega, IntWalk.toNatUp, reduceCtorEq, false_and, and_false, false_or, or_false, true_or, or_true, not_true_eq_false, not_false_eq_true, Bool.not_true, Bool.not_false, Bool.and_true, Bool.true_and, Bool.and_false, Bool.false_and, Bool.not_eq_true, beq_self_eq_true, Nat.add_zero, Int.reduceLE, Int.reduceLT, Int.reduceToNat, Int.reduceNeg, w1, z1]
    exact (bb.addSet (by omega) _).add _
theorem synced_ok (T : World) (h : Hp) (v : Value) (n : Int) (l : List Nat) (s : Bs h v l) (hl : l.length ≤ 140737488355328) :
    CallsH Try.prog T 44 #[.agg [v, .int .i64 n].toArray] h fun v' h' => Bel h.size h h' ∧ Synced h.size h' v' l n := by
  obtain ⟨p, c, rfl, hc1⟩ := s.open
  refine CallsH.of_code' (args := [_]) Try.func44 rfl rfl rfl rfl ?_
  simp (config := {contextual := true, maxSteps := 2000000}) only [go_sem, ↓reduceIte, Nat.reduceEqDiff, Nat.reduceAdd, Nat.reduceMul, Nat.reduceLeDiff, Nat.reduceLT, Nat.reduceSub, IntWalk.iteOmega, IntWalk.toNatUp, reduceCtorEq, false_and, and_false, false_or, or_false, true_or, or_true, not_true_eq_false, not_false_eq_true, Bool.not_true, Bool.not_false, Bool.and_true, Bool.true_and, Bool.and_false, Bool.false_and, Bool.not_eq_true, beq_self_eq_true, Nat.add_zero, Int.reduceLE, Int.reduceLT, Int.reduceToNat, Int.reduceNeg]
  refine (tapeMay_ok T _ p l.length c n).use ?_
  rintro v1 h1 ⟨rfl, rfl⟩
  unfold Synced
  by_cases q : l.length ≤ 100000 ∧ 0 ≤ n ∧ n ≤ l.length
  · simp (config := {contextual := true, maxSteps := 2000000}) only [go_sem, ↓reduceIte, Nat.reduceEqDiff, Nat.reduceAdd, Nat.reduceMul, Nat.reduceLeDiff, Nat.reduceLT, Nat.reduceSub, IntWalk.iteOmega, IntWalk.toNatUp, reduceCtorEq, false_and, and_false, false_or, or_false, true_or, or_true, not_true_eq_false, not_false_eq_true, Bool.not_true, Bool.not_false, Bool.and_true, Bool.true_and, Bool.and_false, Bool.false_and, Bool.not_eq_true, beq_self_eq_true, Nat.add_zero, Int.reduceLE, Int.reduceLT, Int.reduceToNat, Int.reduceNeg, q]
    refine VS.b (h.size + 1) [(0, true), (1, true), (3, true), (4, true), (5, true), (2, false), (6, true), (7, false), (8, true)] mixed (by kernel_rfl) ?_
    simp (config := {contextual := true, maxSteps := 2000000}) only [go_sem, ↓reduceIte, Nat.reduceEqDiff, Nat.reduceAdd, Nat.reduceMul, Nat.reduceLeDiff, Nat.reduceLT, Nat.reduceSub, IntWalk.iteOmega, IntWalk.toNatUp, reduceCtorEq, false_and, and_false, false_or, or_false, true_or, or_true, not_true_eq_false, not_false_eq_true, Bool.not_true, Bool.not_false, Bool.and_true, Bool.true_and, Bool.and_false, Bool.false_and, Bool.not_eq_true, beq_self_eq_true, Nat.add_zero, Int.reduceLE, Int.reduceLT, Int.reduceToNat, Int.reduceNeg]
    refine (joined_ok T _ _ _ l [] (s.bel ((((Bel.refl _ _).add _).add _).add _)) (OBs.nil 0 0 _).bs (by simpa using hl)).use ?_
    rintro v1 h1 ⟨o1, b1⟩
    rw [List.append_nil] at o1
    have z1 : h.size + 1 < h1.size := by have := b1.size; simp at this; omega
    have r1 := b1.get (k := h.size + 1) (by simp) (by rw [Array.getElem?_push, if_neg (by simp), Array.getElem?_push, if_pos (by simp)])
    have w1 := wr_get r1
    obtain ⟨p1, c1, rfl, _⟩ := o1.bs.open
    simp (config := {contextual := true, maxSteps := 2000000}) only [go_sem, ↓reduceIte, Nat.reduceEqDiff, Nat.reduceAdd, Nat.reduceMul, Nat.reduceLeDiff, Nat.reduceLT, Nat.reduceSub, IntWalk.iteOmega, IntWalk.toNatUp, reduceCtorEq, false_and, and_false, false_or, or_false, true_or, or_true, not_true_eq_false, not_false_eq_true, Bool.not_true, Bool.not_false, Bool.and_true, Bool.true_and, Bool.and_false, Bool.false_and, Bool.not_eq_true, beq_self_eq_true, Nat.add_zero, Int.reduceLE, Int.reduceLT, Int.reduceToNat, Int.reduceNeg, w1, z1]
    have c0 : Bel (h.size + 1) _ h1 := b1.mono (by simp)
    have bb : Bel h.size h h1 := (((Bel.refl _ _).add _).add _).add _ |>.trans (b1.mono (by simp; omega))
    refine ⟨c0, c0.addSet (Nat.le_refl _) _, bb.addSet (by omega) _, ?_⟩
    exact ⟨_, rfl, (o1.setLow (by simp) _).mono (by simp; omega)⟩
  · simp (config := {contextual := true, maxSteps := 2000000}) only [go_sem, ↓reduceIte, Nat.reduceEqDiff, Nat.reduceAdd, Nat.reduceMul, Nat.reduceLeDiff, Nat.reduceLT, Nat.reduceSub, IntWalk.iteOmega, IntWalk.toNatUp, reduceCtorEq, false_and, and_false, false_or, or_false, true_or, or_true, not_true_eq_false, not_false_eq_true, Bool.not_true, Bool.not_false, Bool.and_true, Bool.true_and, Bool.and_false, Bool.false_and, Bool.not_eq_true, beq_self_eq_true, Nat.add_zero, Int.reduceLE, Int.reduceLT, Int.reduceToNat, Int.reduceNeg, q]
    exact (((Bel.refl _ _).add _).add _).add _
theorem sameTape_ok (T : World) (h : Hp) (v u : Value) (n m : Int) (l k : List Nat) (s : Bs h v l) (t : Bs h u k) :
    CallsH Try.prog T 45 #[.agg [v, .int .i64 n].toArray, .agg [u, .int .i64 m].toArray] h fun v' h' => v' = .bool (decide (n = m ∧ l = k)) ∧ Bel h.size h h' := by
  obtain ⟨p, c, rfl, hc1⟩ := s.open
  obtain ⟨p2, c2, rfl, hc2⟩ := t.open
  refine CallsH.of_code' (args := [_, _]) Try.func45 rfl rfl rfl rfl ?_
  have bb : ∀ (o o' : Obj), Bel h.size h ((h.push o).push o') := fun o o' => ((Bel.refl _ _).add _).add _
  by_cases q : n = m
  · subst q
    simp (config := {contextual := true, maxSteps := 2000000}) only [go_sem, ↓reduceIte, Nat.reduceEqDiff, Nat.reduceAdd, Nat.reduceMul, Nat.reduceLeDiff, Nat.reduceLT, Nat.reduceSub, IntWalk.iteOmega, IntWalk.toNatUp, reduceCtorEq, false_and, and_false, false_or, or_false, true_or, or_true, not_true_eq_false, not_false_eq_true, Bool.not_true, Bool.not_false, Bool.and_true, Bool.true_and, Bool.and_false, Bool.false_and, Bool.not_eq_true, beq_self_eq_true, Nat.add_zero, Int.reduceLE, Int.reduceLT, Int.reduceToNat, Int.reduceNeg]
    refine (sameBytes_ok T _ _ _ l k (s.bel (bb _ _)) (t.bel (bb _ _))).use ?_
    rintro v1 h1 ⟨rfl, rfl⟩
    simp (config := {contextual := true, maxSteps := 2000000}) only [go_sem, ↓reduceIte, Nat.reduceEqDiff, Nat.reduceAdd, Nat.reduceMul, Nat.reduceLeDiff, Nat.reduceLT, Nat.reduceSub, IntWalk.iteOmega, IntWalk.toNatUp, reduceCtorEq, false_and, and_false, false_or, or_false, true_or, or_true, not_true_eq_false, not_false_eq_true, Bool.not_true, Bool.not_false, Bool.and_true, Bool.true_and, Bool.and_false, Bool.false_and, Bool.not_eq_true, beq_self_eq_true, Nat.add_zero, Int.reduceLE, Int.reduceLT, Int.reduceToNat, Int.reduceNeg]
    exact bb _ _
  · simp (config := {contextual := true, maxSteps := 2000000}) only [go_sem, ↓reduceIte, Nat.reduceEqDiff, Nat.reduceAdd, Nat.reduceMul, Nat.reduceLeDiff, Nat.reduceLT, Nat.reduceSub, IntWalk.iteOmega, IntWalk.toNatUp, reduceCtorEq, false_and, and_false, false_or, or_false, true_or, or_true, not_true_eq_false, not_false_eq_true, Bool.not_true, Bool.not_false, Bool.and_true, Bool.true_and, Bool.and_false, Bool.false_and, Bool.not_eq_true, beq_self_eq_true, Nat.add_zero, Int.reduceLE, Int.reduceLT, Int.reduceToNat, Int.reduceNeg, q]
    exact bb _ _
theorem tapeArg {h : Hp} {k : Nat} {v : Value} (hf : fitV Try.prog h k 52 v) : ∃ w n l, v = .agg [w, .int .i64 n].toArray ∧ Bs h w l ∧ l.length ≤ 140737488355328 ∧ Cap w := by
  obtain ⟨cs, rfl, hl, hf⟩ := fitV_struct (l := [26, 3]) Try.underlying52 (by kernel_rfl) (by kernel_rfl) hf
  obtain ⟨w, _, k1, rfl, hw, hf⟩ := fitL_cell hf
  obtain ⟨n, _, rfl, _, _, hf⟩ := fitL_int Try.underlying3 hf
  obtain rfl := fitL_nil hf
  obtain ⟨l, s, hl⟩ := fit_bytes Try.underlying26 Try.underlying5 (by kernel_rfl) (by kernel_rfl) hw
  exact ⟨w, n, l, rfl, s, hl, fit_cap Try.underlying26 hw⟩
def syncRes (l : List Nat) (n : Int) : List Nat × Int × Int := if l.length ≤ 100000 ∧ 0 ≤ n ∧ n ≤ l.length then (l, l.length, 0) else ([], 0, 5)
theorem Synced.open {B : Nat} {h' : Hp} {v' : Value} {l : List Nat} {n : Int} (s : Synced B h' v' l n) : ∃ p c L Z E, syncRes l n = (L, Z, E) ∧ v' = .tuple [.agg [.slice p L.length c, .int .i64 Z].toArray, .int .i64 E].toArray ∧ Bs h' (.slice p L.length c) L := by
  unfold Synced at s
  unfold syncRes
  by_cases q : l.length ≤ 100000 ∧ 0 ≤ n ∧ n ≤ l.length
  · rw [if_pos q] at s ⊢
    obtain ⟨w, rfl, o⟩ := s
    obtain ⟨p, c, rfl, _⟩ := o.bs.open
    exact ⟨p, c, l, _, _, rfl, rfl, o.bs⟩
  · rw [if_neg q] at s ⊢
    exact ⟨none, 0, [], _, _, rfl, s, (OBs.nil 0 5 h').bs⟩
theorem stableSyncs_ok : LawOk Try.prog 9 Try.f9.params.toList := by
  intro T args hfit
  rw [show Try.f9.params.toList = [52] from rfl] at hfit
  obtain ⟨v, _, rfl, ⟨k1, h1⟩, hfit⟩ := fitAll_cons hfit
  obtain rfl := fitAll_nil hfit
  obtain ⟨w, n, l, rfl, s, hl, hcap⟩ := tapeArg h1
  generalize T.heap = h at *
  obtain ⟨p, c, rfl, hc1⟩ := s.open
  refine CallsH.of_code' (args := [_]) Try.func9 rfl rfl rfl rfl ?_
  simp (config := {contextual := true, maxSteps := 2000000}) only [go_sem, ↓reduceIte, Nat.reduceEqDiff, Nat.reduceAdd, Nat.reduceMul, Nat.reduceLeDiff, Nat.reduceLT, Nat.reduceSub, IntWalk.iteOmega, IntWalk.toNatUp, reduceCtorEq, false_and, and_false, false_or, or_false, true_or, or_true, not_true_eq_false, not_false_eq_true, Bool.not_true, Bool.not_false, Bool.and_true, Bool.true_and, Bool.and_false, Bool.false_and, Bool.not_eq_true, beq_self_eq_true, Nat.add_zero, Int.reduceLE, Int.reduceLT, Int.reduceToNat, Int.reduceNeg]
  refine (tapes_ok T _ _ n l (s.bel ((Bel.refl _ _).add _)) hl).use ?_
  rintro _ h1 ⟨w1, rfl, o1, b1⟩
  have bb1 : Bel h.size h h1 := ((Bel.refl _ _).add _).trans (b1.mono (by simp))
  obtain ⟨p1, c1, rfl, _⟩ := o1.bs.open
  simp (config := {contextual := true, maxSteps := 2000000}) only [go_sem, ↓reduceIte, Nat.reduceEqDiff, Nat.reduceAdd, Nat.reduceMul, Nat.reduceLeDiff, Nat.reduceLT, Nat.reduceSub, IntWalk.iteOmega, IntWalk.toNatUp, reduceCtorEq, false_and, and_false, false_or, or_false, true_or, or_true, not_true_eq_false, not_false_eq_true, Bool.not_true, Bool.not_false, Bool.and_true, Bool.true_and, Bool.and_false, Bool.false_and, Bool.not_eq_true, beq_self_eq_true, Nat.add_zero, Int.reduceLE, Int.reduceLT, Int.reduceToNat, Int.reduceNeg]
  refine (sync_ok T _ _ n l (o1.bs.bel ((Bel.refl _ _).add _)) hl).use ?_
  rintro _ h2 ⟨b2, s2⟩
  obtain ⟨p2, c2, L, Z, E, e2, rfl, y2⟩ := s2.open
  have z1 : h.size < h1.size := by have := b1.size; simp at this; omega
  have z2 : h1.size < h2.size := by have := b2.size; simp at this; omega
  have k1 : rd h2 ⟨h.size, 0, none⟩ 2 = some [.slice p l.length c, .int .i64 n] := by
    rw [rd_bel (b2.mono (B' := h.size + 1) (by simp; omega)) (by simp), rd_push, if_neg (by omega), rd_bel (b1.mono (B' := h.size + 1) (by simp)) (by simp), rd_push, if_pos rfl]; rfl
  have k3 : rd h2 ⟨h1.size, 0, none⟩ 2 = some [.slice p1 l.length c1, .int .i64 n] := by
    rw [rd_bel (b2.mono (B' := h1.size + 1) (by simp)) (by simp), rd_push, if_pos rfl]; rfl
  have bb2 : Bel h.size h h2 := (bb1.add _).trans (b2.mono (by simp; omega))
  simp (config := {contextual := true, maxSteps := 2000000}) only [go_sem, ↓reduceIte, Nat.reduceEqDiff, Nat.reduceAdd, Nat.reduceMul, Nat.reduceLeDiff, Nat.reduceLT, Nat.reduceSub, IntWalk.iteOmega, IntWalk.toNatUp, reduceCtorEq, false_and, and_false, false_or, or_false, true_or, or_true, not_true_eq_false, not_false_eq_true, Bool.not_true, Bool.not_false, Bool.and_true, Bool.true_and, Bool.and_false, Bool.false_and, Bool.not_eq_true, beq_self_eq_true, Nat.add_zero, Int.reduceLE, Int.reduceLT, Int.reduceToNat, Int.reduceNeg, z1, z2, k1]
  have u1 : Bel h.size h (h2.push (.cells [.slice p2 L.length c2, .int .i64 Z].toArray 52)) := bb2.add _
  refine (synced_ok T _ _ n l (s.bel u1) hl).use ?_
  rintro _ h3 ⟨b3, s3⟩
  obtain ⟨p3, c3, L', Z', E', e3, rfl, y3⟩ := s3.open
  rw [e2] at e3
  simp only [Prod.mk.injEq] at e3
  obtain ⟨rfl, rfl, rfl⟩ := e3
  have z3 : h2.size < h3.size := by have := b3.size; simp at this; omega
  have k1' : rd h3 ⟨h.size, 0, none⟩ 2 = some [.slice p l.length c, .int .i64 n] := by
    rw [rd_bel (b3.mono (B' := h.size + 1) (by simp; omega)) (by simp), rd_push, if_neg (by omega), k1]
  have k3' : rd h3 ⟨h1.size, 0, none⟩ 2 = some [.slice p1 l.length c1, .int .i64 n] := by
    rw [rd_bel (b3.mono (B' := h1.size + 1) (by simp; omega)) (by simp), rd_push, if_neg (by omega), k3]
  have k4 : rd h3 ⟨h2.size, 0, none⟩ 2 = some [.slice p2 L.length c2, .int .i64 Z] := by
    rw [rd_bel (b3.mono (B' := h2.size + 1) (by simp)) (by simp), rd_push, if_pos rfl]; rfl
  have bb3 : Bel h.size h h3 := (bb2.add _).trans (b3.mono (by simp; omega))
  simp (config := {contextual := true, maxSteps := 2000000}) only [go_sem, ↓reduceIte, Nat.reduceEqDiff, Nat.reduceAdd, Nat.reduceMul, Nat.reduceLeDiff, Nat.reduceLT, Nat.reduceSub, IntWalk.iteOmega, IntWalk.toNatUp, reduceCtorEq, false_and, and_false, false_or, or_false, true_or, or_true, not_true_eq_false, not_false_eq_true, Bool.not_true, Bool.not_false, Bool.and_true, Bool.true_and, Bool.and_false, Bool.false_and, Bool.not_eq_true, beq_self_eq_true, Nat.add_zero, Int.reduceLE, Int.reduceLT, Int.reduceToNat, Int.reduceNeg, z1, z2, z3, k1', k3', k4]
  have b3' : Bel h2.size h2 h3 := ((Bel.refl _ _).add _).trans (b3.mono (by simp))
  refine (sameTape_ok T _ _ _ Z Z L L (y2.bel (b3'.add _)) (y3.bel ((Bel.refl _ _).add _))).use ?_
  rintro _ h4 ⟨rfl, b4⟩
  have k1'' : rd h4 ⟨h.size, 0, none⟩ 2 = some [.slice p l.length c, .int .i64 n] := by
    rw [rd_bel (b4.mono (B' := h.size + 1) (by simp; omega)) (by simp), rd_push, if_neg (by omega), k1']
  have k3'' : rd h4 ⟨h1.size, 0, none⟩ 2 = some [.slice p1 l.length c1, .int .i64 n] := by
    rw [rd_bel (b4.mono (B' := h1.size + 1) (by simp; omega)) (by simp), rd_push, if_neg (by omega), k3']
  have bb4 : Bel h.size h h4 := (bb3.add _).trans (b4.mono (by simp; omega))
  have d4 : Bel h1.size h1 h4 := (((((Bel.refl _ _).add _).trans (b2.mono (by simp))).add _).trans (b3.mono (by simp; omega))).add _ |>.trans (b4.mono (by simp; omega))
  simp (config := {contextual := true, maxSteps := 2000000}) only [go_sem, ↓reduceIte, Nat.reduceEqDiff, Nat.reduceAdd, Nat.reduceMul, Nat.reduceLeDiff, Nat.reduceLT, Nat.reduceSub, IntWalk.iteOmega, IntWalk.toNatUp, reduceCtorEq, false_and, and_false, false_or, or_false, true_or, or_true, not_true_eq_false, not_false_eq_true, Bool.not_true, Bool.not_false, Bool.and_true, Bool.true_and, Bool.and_false, Bool.false_and, Bool.not_eq_true, beq_self_eq_true, Nat.add_zero, Int.reduceLE, Int.reduceLT, Int.reduceToNat, Int.reduceNeg, k1'', k3'']
  refine (sameTape_ok T _ _ _ n n l l (o1.bs.bel d4) (s.bel bb4)).use ?_
  rintro _ h5 ⟨rfl, b5⟩
  simp (config := {contextual := true, maxSteps := 2000000}) only [go_sem, ↓reduceIte, Nat.reduceEqDiff, Nat.reduceAdd, Nat.reduceMul, Nat.reduceLeDiff, Nat.reduceLT, Nat.reduceSub, IntWalk.iteOmega, IntWalk.toNatUp, reduceCtorEq, false_and, and_false, false_or, or_false, true_or, or_true, not_true_eq_false, not_false_eq_true, Bool.not_true, Bool.not_false, Bool.and_true, Bool.true_and, Bool.and_false, Bool.false_and, Bool.not_eq_true, beq_self_eq_true, Nat.add_zero, Int.reduceLE, Int.reduceLT, Int.reduceToNat, Int.reduceNeg]
  exact bb4.trans (b5.mono (by have := bb4.size; omega))
theorem stableSyncs_lifted (os : Os) (started : os.Started) (H : Type) (enc : TypeId × Value → H) :
    ReturnsInHanded {} Try.checked os 9 .any (Rows.stableSyncsSpec.pre6 enc Try.prog Try.f9 Rows.stableSyncsRow.domain false) (Rows.stableSyncsSpec.post enc Try.prog Try.f9 false true false false) :=
  law_lifted (C := Try.checked) ownKnobT started (by kernel_rfl) Try.func9
    (ChangeSpec.witness6 (enc := enc) (C := Try.checked) false ⟨#[], #[.agg [Value.slice none 0 0, Value.int .i64 0].toArray], []⟩ 12 (by kernel_rfl) (by kernel_rfl) (by kernel_rfl) (by kernel_rfl))
    laidOutT (by kernel_rfl) (by kernel_rfl) (tb := 4) rfl Try.underlying4 rfl (fun ds hd => by
      have hl : ds.length = 1 := hd
      match ds, hl with
      | [d0], _ => rfl) stableSyncs_ok
theorem stableSyncs_holds : Rows.StableSyncsSaid :=
  OpenClaim.holds_of_wide 9 Try.f9 rfl rfl rfl rfl rfl rfl rfl ⟨rfl, rfl, rfl, rfl, rfl⟩ rfl rfl rfl rfl rfl (by kernel_rfl) Try.func9 (show joinedFacts Try.prog 9 Try.f9 Rows.stableSyncsSpec Rows.stableSyncsRow = true by unfold joinedFacts; rw [makeT, enterT, liftsT]; kernel_rfl)
    (of_decide_eq_true (by kernel_rfl)) (by unfold Func.isWrapper; rw [if_neg (of_decide_eq_false (by kernel_rfl))]; exact ⟨rfl, rfl⟩)
    (fun os started H enc _ => stableSyncs_lifted os started H enc)
end Go.Proofs.Ytjgbajgmndkfjaa
