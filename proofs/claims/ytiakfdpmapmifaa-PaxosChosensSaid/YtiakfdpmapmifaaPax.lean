/- Ballots and votes: what the small functions compute; no condition but those in the statements. -/
import Derived.Test.YtiakfdpmapmifaaOchk
import Derived.Test.YtiakfdpmapmifaaW13
namespace Go.Proofs.Ytiakfdpmapmifaa
open Go Go.V
set_option linter.unusedSimpArgs false
set_option linter.unusedVariables false
set_option maxRecDepth 100000
structure Bal where
  r : Int
  n : Int
structure Vt where
  slot : Int
  b : Bal
  k : Int
  c : Int
  s : Int
  nm : Int
  v : Int
def balC (b : Bal) : List Value := [.int .i64 b.r, .int .i64 b.n]
def voteC (v : Vt) : List Value := [.int .i64 v.slot, .int .i64 v.b.r, .int .i64 v.b.n, .int .i64 v.k, .int .i64 v.c, .int .i64 v.s, .int .i64 v.nm, .int .i64 v.v]
def ballotMay (b : Bal) : Prop := (1 ≤ b.r ∧ b.r ≤ 65536) ∧ (0 ≤ b.n ∧ b.n ≤ 4)
instance (b : Bal) : Decidable (ballotMay b) := by unfold ballotMay; infer_instance
def voteMay (v : Vt) : Prop := (0 ≤ v.slot ∧ v.slot ≤ 39) ∧ ballotMay v.b ∧ cmdErr v.k v.c v.s v.nm v.v = 0
instance (v : Vt) : Decidable (voteMay v) := by unfold voteMay; infer_instance
def below (a b : Bal) : Prop := a.r < b.r ∨ (a.r = b.r ∧ a.n < b.n)
instance (a b : Bal) : Decidable (below a b) := by unfold below; infer_instance
def icmp (a b : Int) : Int := if a < b then -1 else if b < a then 1 else 0
def bcmp (a b : Bal) : Int := if icmp a.r b.r = 0 then icmp a.n b.n else icmp a.r b.r
theorem bcmp_pos (a b : Bal) : 0 < bcmp a b ↔ below b a := by
  unfold bcmp icmp below
  repeat' split
  all_goals omega
theorem isNaN_ok (T : World) (h : Hp) (a : Int) : CallsH Try.prog T 54 #[.int .i64 a] h fun v' h' => v' = .bool false ∧ h' = h := by
  refine CallsH.of_code' (args := [_]) Try.func54 rfl rfl rfl rfl ?_
  simp (config := {maxSteps := 2000000, implicitDefEqProofs := false}) only [go_sem, ↓reduceIte, Nat.reduceEqDiff, Nat.reduceAdd, Nat.reduceMul, Nat.reduceLeDiff, Nat.reduceLT, Nat.reduceSub, IntWalk.iteOmega, IntWalk.toNatUp, reduceCtorEq, false_and, and_false, false_or, or_false, true_or, or_true, not_true_eq_false, not_false_eq_true, Bool.not_true, Bool.not_false, Bool.and_true, Bool.true_and, Bool.and_false, Bool.false_and, Bool.not_eq_true, beq_self_eq_true, Nat.add_zero, Int.reduceLE, Int.reduceLT, Int.reduceToNat, Int.reduceNeg]
theorem cmpCompare_ok (T : World) (h : Hp) (a b : Int) : CallsH Try.prog T 31 #[.int .i64 a, .int .i64 b] h fun v' h' => v' = .int .i64 (icmp a b) ∧ h' = h := by
  refine CallsH.of_code' (args := [_, _]) Try.func31 rfl rfl rfl rfl ?_
  simp (config := {maxSteps := 2000000, implicitDefEqProofs := false}) only [go_sem, ↓reduceIte, Nat.reduceEqDiff, Nat.reduceAdd, Nat.reduceMul, Nat.reduceLeDiff, Nat.reduceLT, Nat.reduceSub, IntWalk.iteOmega, IntWalk.toNatUp, reduceCtorEq, false_and, and_false, false_or, or_false, true_or, or_true, not_true_eq_false, not_false_eq_true, Bool.not_true, Bool.not_false, Bool.and_true, Bool.true_and, Bool.and_false, Bool.false_and, Bool.not_eq_true, beq_self_eq_true, Nat.add_zero, Int.reduceLE, Int.reduceLT, Int.reduceToNat, Int.reduceNeg]
  refine (isNaN_ok T _ _).pure ?_
  simp (config := {maxSteps := 2000000, implicitDefEqProofs := false}) only [go_sem, ↓reduceIte, Nat.reduceEqDiff, Nat.reduceAdd, Nat.reduceMul, Nat.reduceLeDiff, Nat.reduceLT, Nat.reduceSub, IntWalk.iteOmega, IntWalk.toNatUp, reduceCtorEq, false_and, and_false, false_or, or_false, true_or, or_true, not_true_eq_false, not_false_eq_true, Bool.not_true, Bool.not_false, Bool.and_true, Bool.true_and, Bool.and_false, Bool.false_and, Bool.not_eq_true, beq_self_eq_true, Nat.add_zero, Int.reduceLE, Int.reduceLT, Int.reduceToNat, Int.reduceNeg]
  refine (isNaN_ok T _ _).pure ?_
  unfold icmp
  by_cases q1 : a < b
  · simp (config := {maxSteps := 2000000, implicitDefEqProofs := false}) only [go_sem, ↓reduceIte, Nat.reduceEqDiff, Nat.reduceAdd, Nat.reduceMul, Nat.reduceLeDiff, Nat.reduceLT, Nat.reduceSub, IntWalk.iteOmega, IntWalk.toNatUp, reduceCtorEq, false_and, and_false, false_or, or_false, true_or, or_true, not_true_eq_false, not_false_eq_true, Bool.not_true, Bool.not_false, Bool.and_true, Bool.true_and, Bool.and_false, Bool.false_and, Bool.not_eq_true, beq_self_eq_true, Nat.add_zero, Int.reduceLE, Int.reduceLT, Int.reduceToNat, Int.reduceNeg, q1]
  · by_cases q2 : b < a
    · simp (config := {maxSteps := 2000000, implicitDefEqProofs := false}) only [go_sem, ↓reduceIte, Nat.reduceEqDiff, Nat.reduceAdd, Nat.reduceMul, Nat.reduceLeDiff, Nat.reduceLT, Nat.reduceSub, IntWalk.iteOmega, IntWalk.toNatUp, reduceCtorEq, false_and, and_false, false_or, or_false, true_or, or_true, not_true_eq_false, not_false_eq_true, Bool.not_true, Bool.not_false, Bool.and_true, Bool.true_and, Bool.and_false, Bool.false_and, Bool.not_eq_true, beq_self_eq_true, Nat.add_zero, Int.reduceLE, Int.reduceLT, Int.reduceToNat, Int.reduceNeg, q1, q2]
    · simp (config := {maxSteps := 2000000, implicitDefEqProofs := false}) only [go_sem, ↓reduceIte, Nat.reduceEqDiff, Nat.reduceAdd, Nat.reduceMul, Nat.reduceLeDiff, Nat.reduceLT, Nat.reduceSub, IntWalk.iteOmega, IntWalk.toNatUp, reduceCtorEq, false_and, and_false, false_or, or_false, true_or, or_true, not_true_eq_false, not_false_eq_true, Bool.not_true, Bool.not_false, Bool.and_true, Bool.true_and, Bool.and_false, Bool.false_and, Bool.not_eq_true, beq_self_eq_true, Nat.add_zero, Int.reduceLE, Int.reduceLT, Int.reduceToNat, Int.reduceNeg, q1, q2]
theorem cmpOr_ok (T : World) (h : Hp) (b : Nat) (x y : Int) (h0 : hc h ⟨b, 0, none⟩ = some (.int .i64 x)) (h1 : hc h ⟨b, 1, none⟩ = some (.int .i64 y)) : CallsH Try.prog T 53 #[.slice (some ⟨b, 0, none⟩) 2 2] h fun v' h' => v' = .int .i64 (if x = 0 then y else x) ∧ h' = h := by
  refine CallsH.of_code' (args := [_]) Try.func53 rfl rfl rfl rfl ?_
  simp (config := {maxSteps := 2000000, implicitDefEqProofs := false}) only [go_sem, ↓reduceIte, Nat.reduceEqDiff, Nat.reduceAdd, Nat.reduceMul, Nat.reduceLeDiff, Nat.reduceLT, Nat.reduceSub, IntWalk.iteOmega, IntWalk.toNatUp, reduceCtorEq, false_and, and_false, false_or, or_false, true_or, or_true, not_true_eq_false, not_false_eq_true, Bool.not_true, Bool.not_false, Bool.and_true, Bool.true_and, Bool.and_false, Bool.false_and, Bool.not_eq_true, beq_self_eq_true, Nat.add_zero, Int.reduceLE, Int.reduceLT, Int.reduceToNat, Int.reduceNeg]
  refine VS.rounds 3 rfl ?_
  by_cases q1 : x = 0
  · by_cases q2 : y = 0
    · simp (config := {maxSteps := 2000000, implicitDefEqProofs := false}) only [go_sem, ↓reduceIte, Nat.reduceEqDiff, Nat.reduceAdd, Nat.reduceMul, Nat.reduceLeDiff, Nat.reduceLT, Nat.reduceSub, IntWalk.iteOmega, IntWalk.toNatUp, reduceCtorEq, false_and, and_false, false_or, or_false, true_or, or_true, not_true_eq_false, not_false_eq_true, Bool.not_true, Bool.not_false, Bool.and_true, Bool.true_and, Bool.and_false, Bool.false_and, Bool.not_eq_true, beq_self_eq_true, Nat.add_zero, Int.reduceLE, Int.reduceLT, Int.reduceToNat, Int.reduceNeg, h0, h1, q1, q2, Int.reduceAdd]
    · simp (config := {maxSteps := 2000000, implicitDefEqProofs := false}) only [go_sem, ↓reduceIte, Nat.reduceEqDiff, Nat.reduceAdd, Nat.reduceMul, Nat.reduceLeDiff, Nat.reduceLT, Nat.reduceSub, IntWalk.iteOmega, IntWalk.toNatUp, reduceCtorEq, false_and, and_false, false_or, or_false, true_or, or_true, not_true_eq_false, not_false_eq_true, Bool.not_true, Bool.not_false, Bool.and_true, Bool.true_and, Bool.and_false, Bool.false_and, Bool.not_eq_true, beq_self_eq_true, Nat.add_zero, Int.reduceLE, Int.reduceLT, Int.reduceToNat, Int.reduceNeg, h0, h1, q1, q2, Int.reduceAdd]
  · simp (config := {maxSteps := 2000000, implicitDefEqProofs := false}) only [go_sem, ↓reduceIte, Nat.reduceEqDiff, Nat.reduceAdd, Nat.reduceMul, Nat.reduceLeDiff, Nat.reduceLT, Nat.reduceSub, IntWalk.iteOmega, IntWalk.toNatUp, reduceCtorEq, false_and, and_false, false_or, or_false, true_or, or_true, not_true_eq_false, not_false_eq_true, Bool.not_true, Bool.not_false, Bool.and_true, Bool.true_and, Bool.and_false, Bool.false_and, Bool.not_eq_true, beq_self_eq_true, Nat.add_zero, Int.reduceLE, Int.reduceLT, Int.reduceToNat, Int.reduceNeg, h0, h1, q1]
theorem ballot_ok (T : World) (h : Hp) (b : Bal) : CallsH Try.prog T 36 #[.agg (balC b).toArray] h fun v' h' => v' = .bool (decide (ballotMay b)) ∧ h' = h.push (.cells (balC b).toArray 38) := by
  refine CallsH.of_code' (args := [_]) Try.func36 rfl rfl rfl rfl ?_
  unfold balC
  by_cases q1 : 1 ≤ b.r
  · by_cases q2 : b.r ≤ 65536
    · by_cases q3 : 0 ≤ b.n
      · by_cases q4 : b.n < 5
        · have e : ballotMay b := ⟨⟨q1, q2⟩, q3, by omega⟩
          simp (config := {maxSteps := 2000000, implicitDefEqProofs := false}) only [go_sem, ↓reduceIte, Nat.reduceEqDiff, Nat.reduceAdd, Nat.reduceMul, Nat.reduceLeDiff, Nat.reduceLT, Nat.reduceSub, IntWalk.iteOmega, IntWalk.toNatUp, reduceCtorEq, false_and, and_false, false_or, or_false, true_or, or_true, not_true_eq_false, not_false_eq_true, Bool.not_true, Bool.not_false, Bool.and_true, Bool.true_and, Bool.and_false, Bool.false_and, Bool.not_eq_true, beq_self_eq_true, Nat.add_zero, Int.reduceLE, Int.reduceLT, Int.reduceToNat, Int.reduceNeg, q1, q2, q3, q4, e]
        · have e : ¬ ballotMay b := by unfold ballotMay; omega
          simp (config := {maxSteps := 2000000, implicitDefEqProofs := false}) only [go_sem, ↓reduceIte, Nat.reduceEqDiff, Nat.reduceAdd, Nat.reduceMul, Nat.reduceLeDiff, Nat.reduceLT, Nat.reduceSub, IntWalk.iteOmega, IntWalk.toNatUp, reduceCtorEq, false_and, and_false, false_or, or_false, true_or, or_true, not_true_eq_false, not_false_eq_true, Bool.not_true, Bool.not_false, Bool.and_true, Bool.true_and, Bool.and_false, Bool.false_and, Bool.not_eq_true, beq_self_eq_true, Nat.add_zero, Int.reduceLE, Int.reduceLT, Int.reduceToNat, Int.reduceNeg, q1, q2, q3, q4, e]
      · have e : ¬ ballotMay b := by unfold ballotMay; omega
        simp (config := {maxSteps := 2000000, implicitDefEqProofs := false}) only [go_sem, ↓reduceIte, Nat.reduceEqDiff, Nat.reduceAdd, Nat.reduceMul, Nat.reduceLeDiff, Nat.reduceLT, Nat.reduceSub, IntWalk.iteOmega, IntWalk.toNatUp, reduceCtorEq, false_and, and_false, false_or, or_false, true_or, or_true, not_true_eq_false, not_false_eq_true, Bool.not_true, Bool.not_false, Bool.and_true, Bool.true_and, Bool.and_false, Bool.false_and, Bool.not_eq_true, beq_self_eq_true, Nat.add_zero, Int.reduceLE, Int.reduceLT, Int.reduceToNat, Int.reduceNeg, q1, q2, q3, e]
    · have e : ¬ ballotMay b := by unfold ballotMay; omega
      simp (config := {maxSteps := 2000000, implicitDefEqProofs := false}) only [go_sem, ↓reduceIte, Nat.reduceEqDiff, Nat.reduceAdd, Nat.reduceMul, Nat.reduceLeDiff, Nat.reduceLT, Nat.reduceSub, IntWalk.iteOmega, IntWalk.toNatUp, reduceCtorEq, false_and, and_false, false_or, or_false, true_or, or_true, not_true_eq_false, not_false_eq_true, Bool.not_true, Bool.not_false, Bool.and_true, Bool.true_and, Bool.and_false, Bool.false_and, Bool.not_eq_true, beq_self_eq_true, Nat.add_zero, Int.reduceLE, Int.reduceLT, Int.reduceToNat, Int.reduceNeg, q1, q2, e]
  · have e : ¬ ballotMay b := by unfold ballotMay; omega
    simp (config := {maxSteps := 2000000, implicitDefEqProofs := false}) only [go_sem, ↓reduceIte, Nat.reduceEqDiff, Nat.reduceAdd, Nat.reduceMul, Nat.reduceLeDiff, Nat.reduceLT, Nat.reduceSub, IntWalk.iteOmega, IntWalk.toNatUp, reduceCtorEq, false_and, and_false, false_or, or_false, true_or, or_true, not_true_eq_false, not_false_eq_true, Bool.not_true, Bool.not_false, Bool.and_true, Bool.true_and, Bool.and_false, Bool.false_and, Bool.not_eq_true, beq_self_eq_true, Nat.add_zero, Int.reduceLE, Int.reduceLT, Int.reduceToNat, Int.reduceNeg, q1, e]
theorem ballotMay_ok (T : World) (h : Hp) (b : Bal) : CallsH Try.prog T 37 #[.agg (balC b).toArray] h fun v' h' => v' = .bool (decide (ballotMay b)) ∧ h' = h.push (.cells (balC b).toArray 38) := by
  refine CallsH.of_code' (args := [_]) Try.func37 rfl rfl rfl rfl ?_
  unfold balC
  simp (config := {maxSteps := 2000000, implicitDefEqProofs := false}) only [go_sem, ↓reduceIte, Nat.reduceEqDiff, Nat.reduceAdd, Nat.reduceMul, Nat.reduceLeDiff, Nat.reduceLT, Nat.reduceSub, IntWalk.iteOmega, IntWalk.toNatUp, reduceCtorEq, false_and, and_false, false_or, or_false, true_or, or_true, not_true_eq_false, not_false_eq_true, Bool.not_true, Bool.not_false, Bool.and_true, Bool.true_and, Bool.and_false, Bool.false_and, Bool.not_eq_true, beq_self_eq_true, Nat.add_zero, Int.reduceLE, Int.reduceLT, Int.reduceToNat, Int.reduceNeg]
  refine (in_ok T _ _ _ _).pure ?_
  by_cases q1 : 1 ≤ b.r ∧ b.r ≤ 65536
  · simp (config := {maxSteps := 2000000, implicitDefEqProofs := false}) only [go_sem, ↓reduceIte, Nat.reduceEqDiff, Nat.reduceAdd, Nat.reduceMul, Nat.reduceLeDiff, Nat.reduceLT, Nat.reduceSub, IntWalk.iteOmega, IntWalk.toNatUp, reduceCtorEq, false_and, and_false, false_or, or_false, true_or, or_true, not_true_eq_false, not_false_eq_true, Bool.not_true, Bool.not_false, Bool.and_true, Bool.true_and, Bool.and_false, Bool.false_and, Bool.not_eq_true, beq_self_eq_true, Nat.add_zero, Int.reduceLE, Int.reduceLT, Int.reduceToNat, Int.reduceNeg, q1]
    refine (in_ok T _ _ _ _).pure ?_
    by_cases q2 : 0 ≤ b.n ∧ b.n ≤ 4
    · have e : ballotMay b := ⟨q1, q2⟩
      simp (config := {maxSteps := 2000000, implicitDefEqProofs := false}) only [go_sem, ↓reduceIte, Nat.reduceEqDiff, Nat.reduceAdd, Nat.reduceMul, Nat.reduceLeDiff, Nat.reduceLT, Nat.reduceSub, IntWalk.iteOmega, IntWalk.toNatUp, reduceCtorEq, false_and, and_false, false_or, or_false, true_or, or_true, not_true_eq_false, not_false_eq_true, Bool.not_true, Bool.not_false, Bool.and_true, Bool.true_and, Bool.and_false, Bool.false_and, Bool.not_eq_true, beq_self_eq_true, Nat.add_zero, Int.reduceLE, Int.reduceLT, Int.reduceToNat, Int.reduceNeg, q2, e]
    · have e : ¬ ballotMay b := fun h => q2 h.2
      simp (config := {maxSteps := 2000000, implicitDefEqProofs := false}) only [go_sem, ↓reduceIte, Nat.reduceEqDiff, Nat.reduceAdd, Nat.reduceMul, Nat.reduceLeDiff, Nat.reduceLT, Nat.reduceSub, IntWalk.iteOmega, IntWalk.toNatUp, reduceCtorEq, false_and, and_false, false_or, or_false, true_or, or_true, not_true_eq_false, not_false_eq_true, Bool.not_true, Bool.not_false, Bool.and_true, Bool.true_and, Bool.and_false, Bool.false_and, Bool.not_eq_true, beq_self_eq_true, Nat.add_zero, Int.reduceLE, Int.reduceLT, Int.reduceToNat, Int.reduceNeg, q2, e]
  · have e : ¬ ballotMay b := fun h => q1 h.1
    simp (config := {maxSteps := 2000000, implicitDefEqProofs := false}) only [go_sem, ↓reduceIte, Nat.reduceEqDiff, Nat.reduceAdd, Nat.reduceMul, Nat.reduceLeDiff, Nat.reduceLT, Nat.reduceSub, IntWalk.iteOmega, IntWalk.toNatUp, reduceCtorEq, false_and, and_false, false_or, or_false, true_or, or_true, not_true_eq_false, not_false_eq_true, Bool.not_true, Bool.not_false, Bool.and_true, Bool.true_and, Bool.and_false, Bool.false_and, Bool.not_eq_true, beq_self_eq_true, Nat.add_zero, Int.reduceLE, Int.reduceLT, Int.reduceToNat, Int.reduceNeg, q1, e]
theorem compare_ok (T : World) (h : Hp) (a b : Bal) : CallsH Try.prog T 27 #[.agg (balC a).toArray, .agg (balC b).toArray] h fun v' h' => v' = .int .i64 (bcmp a b) ∧ Bel h.size h h' := by
  refine CallsH.of_code' (args := [_, _]) Try.func27 rfl rfl rfl rfl ?_
  unfold balC
  simp (config := {maxSteps := 2000000, implicitDefEqProofs := false}) only [go_sem, ↓reduceIte, Nat.reduceEqDiff, Nat.reduceAdd, Nat.reduceMul, Nat.reduceLeDiff, Nat.reduceLT, Nat.reduceSub, IntWalk.iteOmega, IntWalk.toNatUp, reduceCtorEq, false_and, and_false, false_or, or_false, true_or, or_true, not_true_eq_false, not_false_eq_true, Bool.not_true, Bool.not_false, Bool.and_true, Bool.true_and, Bool.and_false, Bool.false_and, Bool.not_eq_true, beq_self_eq_true, Nat.add_zero, Int.reduceLE, Int.reduceLT, Int.reduceToNat, Int.reduceNeg]
  refine VS.w (h.size + 2) [] (.q 0 (.q 1 (.q 2 (.q 3 (.q 5 (.q 6 (.q 7 (.q 8 (.s 4 (.s 9 (.s 10 (.s 11 (.q 12 .nil))))))))))))) mixed (by kernel_rfl) ?_
  simp (config := {maxSteps := 2000000, implicitDefEqProofs := false}) only [go_sem, ↓reduceIte, Nat.reduceEqDiff, Nat.reduceAdd, Nat.reduceMul, Nat.reduceLeDiff, Nat.reduceLT, Nat.reduceSub, IntWalk.iteOmega, IntWalk.toNatUp, reduceCtorEq, false_and, and_false, false_or, or_false, true_or, or_true, not_true_eq_false, not_false_eq_true, Bool.not_true, Bool.not_false, Bool.and_true, Bool.true_and, Bool.and_false, Bool.false_and, Bool.not_eq_true, beq_self_eq_true, Nat.add_zero, Int.reduceLE, Int.reduceLT, Int.reduceToNat, Int.reduceNeg]
  refine (cmpCompare_ok T _ _ _).pure ?_
  simp (config := {maxSteps := 2000000, implicitDefEqProofs := false}) only [go_sem, ↓reduceIte, Nat.reduceEqDiff, Nat.reduceAdd, Nat.reduceMul, Nat.reduceLeDiff, Nat.reduceLT, Nat.reduceSub, IntWalk.iteOmega, IntWalk.toNatUp, reduceCtorEq, false_and, and_false, false_or, or_false, true_or, or_true, not_true_eq_false, not_false_eq_true, Bool.not_true, Bool.not_false, Bool.and_true, Bool.true_and, Bool.and_false, Bool.false_and, Bool.not_eq_true, beq_self_eq_true, Nat.add_zero, Int.reduceLE, Int.reduceLT, Int.reduceToNat, Int.reduceNeg]
  refine (cmpCompare_ok T _ _ _).pure ?_
  simp (config := {maxSteps := 2000000, implicitDefEqProofs := false}) only [go_sem, ↓reduceIte, Nat.reduceEqDiff, Nat.reduceAdd, Nat.reduceMul, Nat.reduceLeDiff, Nat.reduceLT, Nat.reduceSub, IntWalk.iteOmega, IntWalk.toNatUp, reduceCtorEq, false_and, and_false, false_or, or_false, true_or, or_true, not_true_eq_false, not_false_eq_true, Bool.not_true, Bool.not_false, Bool.and_true, Bool.true_and, Bool.and_false, Bool.false_and, Bool.not_eq_true, beq_self_eq_true, Nat.add_zero, Int.reduceLE, Int.reduceLT, Int.reduceToNat, Int.reduceNeg]
  refine ⟨(Bel.refl _ _).addP (by simp) _, ?_⟩
  refine (cmpOr_ok T _ _ (icmp a.r b.r) (icmp a.n b.n) ?_ ?_).pure ?_
  · simp (config := {maxSteps := 2000000, implicitDefEqProofs := false}) only [go_sem, ↓reduceIte, Nat.reduceEqDiff, Nat.reduceAdd, Nat.reduceMul, Nat.reduceLeDiff, Nat.reduceLT, Nat.reduceSub, IntWalk.iteOmega, IntWalk.toNatUp, reduceCtorEq, false_and, and_false, false_or, or_false, true_or, or_true, not_true_eq_false, not_false_eq_true, Bool.not_true, Bool.not_false, Bool.and_true, Bool.true_and, Bool.and_false, Bool.false_and, Bool.not_eq_true, beq_self_eq_true, Nat.add_zero, Int.reduceLE, Int.reduceLT, Int.reduceToNat, Int.reduceNeg]
  · simp (config := {maxSteps := 2000000, implicitDefEqProofs := false}) only [go_sem, ↓reduceIte, Nat.reduceEqDiff, Nat.reduceAdd, Nat.reduceMul, Nat.reduceLeDiff, Nat.reduceLT, Nat.reduceSub, IntWalk.iteOmega, IntWalk.toNatUp, reduceCtorEq, false_and, and_false, false_or, or_false, true_or, or_true, not_true_eq_false, not_false_eq_true, Bool.not_true, Bool.not_false, Bool.and_true, Bool.true_and, Bool.and_false, Bool.false_and, Bool.not_eq_true, beq_self_eq_true, Nat.add_zero, Int.reduceLE, Int.reduceLT, Int.reduceToNat, Int.reduceNeg]
  unfold bcmp
  simp (config := {maxSteps := 2000000, implicitDefEqProofs := false}) only [go_sem, ↓reduceIte, Nat.reduceEqDiff, Nat.reduceAdd, Nat.reduceMul, Nat.reduceLeDiff, Nat.reduceLT, Nat.reduceSub, IntWalk.iteOmega, IntWalk.toNatUp, reduceCtorEq, false_and, and_false, false_or, or_false, true_or, or_true, not_true_eq_false, not_false_eq_true, Bool.not_true, Bool.not_false, Bool.and_true, Bool.true_and, Bool.and_false, Bool.false_and, Bool.not_eq_true, beq_self_eq_true, Nat.add_zero, Int.reduceLE, Int.reduceLT, Int.reduceToNat, Int.reduceNeg]
  refine ⟨(Bel.refl _ _).addP (by simp) _, ?_⟩
  (repeat' (first | exact Bel.refl _ _ | assumption | refine Bel.add ?_ _ | refine Bel.addSet ?_ (by first | omega | (simp; omega)) _ | refine Bel.trans (by assumption) ?_))
theorem ballotBelow_ok (T : World) (h : Hp) (a b : Bal) : CallsH Try.prog T 34 #[.agg (balC a).toArray, .agg (balC b).toArray] h fun v' h' => v' = .bool (decide (below a b)) ∧ Bel h.size h h' := by
  refine CallsH.of_code' (args := [_, _]) Try.func34 rfl rfl rfl rfl ?_
  unfold balC
  by_cases q1 : a.r < b.r
  · have e : below a b := .inl q1
    simp (config := {maxSteps := 2000000, implicitDefEqProofs := false}) only [go_sem, ↓reduceIte, Nat.reduceEqDiff, Nat.reduceAdd, Nat.reduceMul, Nat.reduceLeDiff, Nat.reduceLT, Nat.reduceSub, IntWalk.iteOmega, IntWalk.toNatUp, reduceCtorEq, false_and, and_false, false_or, or_false, true_or, or_true, not_true_eq_false, not_false_eq_true, Bool.not_true, Bool.not_false, Bool.and_true, Bool.true_and, Bool.and_false, Bool.false_and, Bool.not_eq_true, beq_self_eq_true, Nat.add_zero, Int.reduceLE, Int.reduceLT, Int.reduceToNat, Int.reduceNeg, q1, e]
  · by_cases q2 : a.r = b.r
    · by_cases q3 : a.n < b.n
      · have e : below a b := .inr ⟨q2, q3⟩
        simp (config := {maxSteps := 2000000, implicitDefEqProofs := false}) only [go_sem, ↓reduceIte, Nat.reduceEqDiff, Nat.reduceAdd, Nat.reduceMul, Nat.reduceLeDiff, Nat.reduceLT, Nat.reduceSub, IntWalk.iteOmega, IntWalk.toNatUp, reduceCtorEq, false_and, and_false, false_or, or_false, true_or, or_true, not_true_eq_false, not_false_eq_true, Bool.not_true, Bool.not_false, Bool.and_true, Bool.true_and, Bool.and_false, Bool.false_and, Bool.not_eq_true, beq_self_eq_true, Nat.add_zero, Int.reduceLE, Int.reduceLT, Int.reduceToNat, Int.reduceNeg, q1, q2, q3, e, Int.lt_irrefl]
      · have e : ¬ below a b := by unfold below; omega
        simp (config := {maxSteps := 2000000, implicitDefEqProofs := false}) only [go_sem, ↓reduceIte, Nat.reduceEqDiff, Nat.reduceAdd, Nat.reduceMul, Nat.reduceLeDiff, Nat.reduceLT, Nat.reduceSub, IntWalk.iteOmega, IntWalk.toNatUp, reduceCtorEq, false_and, and_false, false_or, or_false, true_or, or_true, not_true_eq_false, not_false_eq_true, Bool.not_true, Bool.not_false, Bool.and_true, Bool.true_and, Bool.and_false, Bool.false_and, Bool.not_eq_true, beq_self_eq_true, Nat.add_zero, Int.reduceLE, Int.reduceLT, Int.reduceToNat, Int.reduceNeg, q1, q2, q3, e, Int.lt_irrefl]
    · have e : ¬ below a b := by unfold below; omega
      simp (config := {maxSteps := 2000000, implicitDefEqProofs := false}) only [go_sem, ↓reduceIte, Nat.reduceEqDiff, Nat.reduceAdd, Nat.reduceMul, Nat.reduceLeDiff, Nat.reduceLT, Nat.reduceSub, IntWalk.iteOmega, IntWalk.toNatUp, reduceCtorEq, false_and, and_false, false_or, or_false, true_or, or_true, not_true_eq_false, not_false_eq_true, Bool.not_true, Bool.not_false, Bool.and_true, Bool.true_and, Bool.and_false, Bool.false_and, Bool.not_eq_true, beq_self_eq_true, Nat.add_zero, Int.reduceLE, Int.reduceLT, Int.reduceToNat, Int.reduceNeg, q1, q2, e]
theorem vote_ok (T : World) (h : Hp) (v : Vt) : CallsH Try.prog T 26 #[.agg (voteC v).toArray] h fun v' h' => v' = .bool (decide (voteMay v)) ∧ Bel h.size h h' := by
  refine CallsH.of_code' (args := [_]) Try.func26 rfl rfl rfl rfl ?_
  unfold voteC
  by_cases q1 : 0 ≤ v.slot
  · by_cases q2 : v.slot < 40
    · simp (config := {maxSteps := 2000000, implicitDefEqProofs := false}) only [go_sem, ↓reduceIte, Nat.reduceEqDiff, Nat.reduceAdd, Nat.reduceMul, Nat.reduceLeDiff, Nat.reduceLT, Nat.reduceSub, IntWalk.iteOmega, IntWalk.toNatUp, reduceCtorEq, false_and, and_false, false_or, or_false, true_or, or_true, not_true_eq_false, not_false_eq_true, Bool.not_true, Bool.not_false, Bool.and_true, Bool.true_and, Bool.and_false, Bool.false_and, Bool.not_eq_true, beq_self_eq_true, Nat.add_zero, Int.reduceLE, Int.reduceLT, Int.reduceToNat, Int.reduceNeg, q1, q2]
      refine (ballot_ok T _ v.b).use ?_
      rintro _ _ ⟨rfl, rfl⟩
      unfold balC
      by_cases q3 : ballotMay v.b
      · simp (config := {maxSteps := 2000000, implicitDefEqProofs := false}) only [go_sem, ↓reduceIte, Nat.reduceEqDiff, Nat.reduceAdd, Nat.reduceMul, Nat.reduceLeDiff, Nat.reduceLT, Nat.reduceSub, IntWalk.iteOmega, IntWalk.toNatUp, reduceCtorEq, false_and, and_false, false_or, or_false, true_or, or_true, not_true_eq_false, not_false_eq_true, Bool.not_true, Bool.not_false, Bool.and_true, Bool.true_and, Bool.and_false, Bool.false_and, Bool.not_eq_true, beq_self_eq_true, Nat.add_zero, Int.reduceLE, Int.reduceLT, Int.reduceToNat, Int.reduceNeg, q3]
        refine (orderCheck_ok T _ v.k v.c v.s v.nm v.v).use ?_
        rintro _ _ ⟨rfl, rfl⟩
        by_cases q4 : cmdErr v.k v.c v.s v.nm v.v = 0
        · have e : voteMay v := ⟨⟨q1, by omega⟩, q3, q4⟩
          simp (config := {maxSteps := 2000000, implicitDefEqProofs := false}) only [go_sem, ↓reduceIte, Nat.reduceEqDiff, Nat.reduceAdd, Nat.reduceMul, Nat.reduceLeDiff, Nat.reduceLT, Nat.reduceSub, IntWalk.iteOmega, IntWalk.toNatUp, reduceCtorEq, false_and, and_false, false_or, or_false, true_or, or_true, not_true_eq_false, not_false_eq_true, Bool.not_true, Bool.not_false, Bool.and_true, Bool.true_and, Bool.and_false, Bool.false_and, Bool.not_eq_true, beq_self_eq_true, Nat.add_zero, Int.reduceLE, Int.reduceLT, Int.reduceToNat, Int.reduceNeg, q4, e]
          (repeat' (first | exact Bel.refl _ _ | assumption | refine Bel.add ?_ _ | refine Bel.addSet ?_ (by first | omega | (simp; omega)) _ | refine Bel.trans (by assumption) ?_))
        · have e : ¬ voteMay v := fun h => q4 h.2.2
          simp (config := {maxSteps := 2000000, implicitDefEqProofs := false}) only [go_sem, ↓reduceIte, Nat.reduceEqDiff, Nat.reduceAdd, Nat.reduceMul, Nat.reduceLeDiff, Nat.reduceLT, Nat.reduceSub, IntWalk.iteOmega, IntWalk.toNatUp, reduceCtorEq, false_and, and_false, false_or, or_false, true_or, or_true, not_true_eq_false, not_false_eq_true, Bool.not_true, Bool.not_false, Bool.and_true, Bool.true_and, Bool.and_false, Bool.false_and, Bool.not_eq_true, beq_self_eq_true, Nat.add_zero, Int.reduceLE, Int.reduceLT, Int.reduceToNat, Int.reduceNeg, q4, e]
          (repeat' (first | exact Bel.refl _ _ | assumption | refine Bel.add ?_ _ | refine Bel.addSet ?_ (by first | omega | (simp; omega)) _ | refine Bel.trans (by assumption) ?_))
      · have e : ¬ voteMay v := fun h => q3 h.2.1
        simp (config := {maxSteps := 2000000, implicitDefEqProofs := false}) only [go_sem, ↓reduceIte, Nat.reduceEqDiff, Nat.reduceAdd, Nat.reduceMul, Nat.reduceLeDiff, Nat.reduceLT, Nat.reduceSub, IntWalk.iteOmega, IntWalk.toNatUp, reduceCtorEq, false_and, and_false, false_or, or_false, true_or, or_true, not_true_eq_false, not_false_eq_true, Bool.not_true, Bool.not_false, Bool.and_true, Bool.true_and, Bool.and_false, Bool.false_and, Bool.not_eq_true, beq_self_eq_true, Nat.add_zero, Int.reduceLE, Int.reduceLT, Int.reduceToNat, Int.reduceNeg, q3, e]
    · have e : ¬ voteMay v := by unfold voteMay; omega
      simp (config := {maxSteps := 2000000, implicitDefEqProofs := false}) only [go_sem, ↓reduceIte, Nat.reduceEqDiff, Nat.reduceAdd, Nat.reduceMul, Nat.reduceLeDiff, Nat.reduceLT, Nat.reduceSub, IntWalk.iteOmega, IntWalk.toNatUp, reduceCtorEq, false_and, and_false, false_or, or_false, true_or, or_true, not_true_eq_false, not_false_eq_true, Bool.not_true, Bool.not_false, Bool.and_true, Bool.true_and, Bool.and_false, Bool.false_and, Bool.not_eq_true, beq_self_eq_true, Nat.add_zero, Int.reduceLE, Int.reduceLT, Int.reduceToNat, Int.reduceNeg, q1, q2, e]
  · have e : ¬ voteMay v := by unfold voteMay; omega
    simp (config := {maxSteps := 2000000, implicitDefEqProofs := false}) only [go_sem, ↓reduceIte, Nat.reduceEqDiff, Nat.reduceAdd, Nat.reduceMul, Nat.reduceLeDiff, Nat.reduceLT, Nat.reduceSub, IntWalk.iteOmega, IntWalk.toNatUp, reduceCtorEq, false_and, and_false, false_or, or_false, true_or, or_true, not_true_eq_false, not_false_eq_true, Bool.not_true, Bool.not_false, Bool.and_true, Bool.true_and, Bool.and_false, Bool.false_and, Bool.not_eq_true, beq_self_eq_true, Nat.add_zero, Int.reduceLE, Int.reduceLT, Int.reduceToNat, Int.reduceNeg, q1, e]
theorem voteMay_ok (T : World) (h : Hp) (v : Vt) : CallsH Try.prog T 33 #[.agg (voteC v).toArray] h fun v' h' => v' = .bool (decide (voteMay v)) ∧ Bel h.size h h' := by
  refine CallsH.of_code' (args := [_]) Try.func33 rfl rfl rfl rfl ?_
  unfold voteC
  simp (config := {maxSteps := 2000000, implicitDefEqProofs := false}) only [go_sem, ↓reduceIte, Nat.reduceEqDiff, Nat.reduceAdd, Nat.reduceMul, Nat.reduceLeDiff, Nat.reduceLT, Nat.reduceSub, IntWalk.iteOmega, IntWalk.toNatUp, reduceCtorEq, false_and, and_false, false_or, or_false, true_or, or_true, not_true_eq_false, not_false_eq_true, Bool.not_true, Bool.not_false, Bool.and_true, Bool.true_and, Bool.and_false, Bool.false_and, Bool.not_eq_true, beq_self_eq_true, Nat.add_zero, Int.reduceLE, Int.reduceLT, Int.reduceToNat, Int.reduceNeg]
  refine (in_ok T _ _ _ _).pure ?_
  by_cases q1 : 0 ≤ v.slot ∧ v.slot ≤ 39
  · simp (config := {maxSteps := 2000000, implicitDefEqProofs := false}) only [go_sem, ↓reduceIte, Nat.reduceEqDiff, Nat.reduceAdd, Nat.reduceMul, Nat.reduceLeDiff, Nat.reduceLT, Nat.reduceSub, IntWalk.iteOmega, IntWalk.toNatUp, reduceCtorEq, false_and, and_false, false_or, or_false, true_or, or_true, not_true_eq_false, not_false_eq_true, Bool.not_true, Bool.not_false, Bool.and_true, Bool.true_and, Bool.and_false, Bool.false_and, Bool.not_eq_true, beq_self_eq_true, Nat.add_zero, Int.reduceLE, Int.reduceLT, Int.reduceToNat, Int.reduceNeg, q1]
    refine (ballotMay_ok T _ v.b).use ?_
    rintro _ _ ⟨rfl, rfl⟩
    unfold balC
    by_cases q3 : ballotMay v.b
    · simp (config := {maxSteps := 2000000, implicitDefEqProofs := false}) only [go_sem, ↓reduceIte, Nat.reduceEqDiff, Nat.reduceAdd, Nat.reduceMul, Nat.reduceLeDiff, Nat.reduceLT, Nat.reduceSub, IntWalk.iteOmega, IntWalk.toNatUp, reduceCtorEq, false_and, and_false, false_or, or_false, true_or, or_true, not_true_eq_false, not_false_eq_true, Bool.not_true, Bool.not_false, Bool.and_true, Bool.true_and, Bool.and_false, Bool.false_and, Bool.not_eq_true, beq_self_eq_true, Nat.add_zero, Int.reduceLE, Int.reduceLT, Int.reduceToNat, Int.reduceNeg, q3]
      refine (commandFault_ok T _ v.k v.c v.s v.nm v.v).use ?_
      rintro _ _ ⟨rfl, rfl⟩
      by_cases q4 : cmdErr v.k v.c v.s v.nm v.v = 0
      · have e : voteMay v := ⟨q1, q3, q4⟩
        simp (config := {maxSteps := 2000000, implicitDefEqProofs := false}) only [go_sem, ↓reduceIte, Nat.reduceEqDiff, Nat.reduceAdd, Nat.reduceMul, Nat.reduceLeDiff, Nat.reduceLT, Nat.reduceSub, IntWalk.iteOmega, IntWalk.toNatUp, reduceCtorEq, false_and, and_false, false_or, or_false, true_or, or_true, not_true_eq_false, not_false_eq_true, Bool.not_true, Bool.not_false, Bool.and_true, Bool.true_and, Bool.and_false, Bool.false_and, Bool.not_eq_true, beq_self_eq_true, Nat.add_zero, Int.reduceLE, Int.reduceLT, Int.reduceToNat, Int.reduceNeg, q4, e]
        (repeat' (first | exact Bel.refl _ _ | assumption | refine Bel.add ?_ _ | refine Bel.addSet ?_ (by first | omega | (simp; omega)) _ | refine Bel.trans (by assumption) ?_))
      · have e : ¬ voteMay v := fun h => q4 h.2.2
        simp (config := {maxSteps := 2000000, implicitDefEqProofs := false}) only [go_sem, ↓reduceIte, Nat.reduceEqDiff, Nat.reduceAdd, Nat.reduceMul, Nat.reduceLeDiff, Nat.reduceLT, Nat.reduceSub, IntWalk.iteOmega, IntWalk.toNatUp, reduceCtorEq, false_and, and_false, false_or, or_false, true_or, or_true, not_true_eq_false, not_false_eq_true, Bool.not_true, Bool.not_false, Bool.and_true, Bool.true_and, Bool.and_false, Bool.false_and, Bool.not_eq_true, beq_self_eq_true, Nat.add_zero, Int.reduceLE, Int.reduceLT, Int.reduceToNat, Int.reduceNeg, q4, e]
        (repeat' (first | exact Bel.refl _ _ | assumption | refine Bel.add ?_ _ | refine Bel.addSet ?_ (by first | omega | (simp; omega)) _ | refine Bel.trans (by assumption) ?_))
    · have e : ¬ voteMay v := fun h => q3 h.2.1
      simp (config := {maxSteps := 2000000, implicitDefEqProofs := false}) only [go_sem, ↓reduceIte, Nat.reduceEqDiff, Nat.reduceAdd, Nat.reduceMul, Nat.reduceLeDiff, Nat.reduceLT, Nat.reduceSub, IntWalk.iteOmega, IntWalk.toNatUp, reduceCtorEq, false_and, and_false, false_or, or_false, true_or, or_true, not_true_eq_false, not_false_eq_true, Bool.not_true, Bool.not_false, Bool.and_true, Bool.true_and, Bool.and_false, Bool.false_and, Bool.not_eq_true, beq_self_eq_true, Nat.add_zero, Int.reduceLE, Int.reduceLT, Int.reduceToNat, Int.reduceNeg, q3, e]
  · have e : ¬ voteMay v := fun h => q1 h.1
    simp (config := {maxSteps := 2000000, implicitDefEqProofs := false}) only [go_sem, ↓reduceIte, Nat.reduceEqDiff, Nat.reduceAdd, Nat.reduceMul, Nat.reduceLeDiff, Nat.reduceLT, Nat.reduceSub, IntWalk.iteOmega, IntWalk.toNatUp, reduceCtorEq, false_and, and_false, false_or, or_false, true_or, or_true, not_true_eq_false, not_false_eq_true, Bool.not_true, Bool.not_false, Bool.and_true, Bool.true_and, Bool.and_false, Bool.false_and, Bool.not_eq_true, beq_self_eq_true, Nat.add_zero, Int.reduceLE, Int.reduceLT, Int.reduceToNat, Int.reduceNeg, q1, e]
/-! lists of votes -/
theorem votes_open {h : Hp} {v : Value} {l : List Vt} (s : Ts voteC 8 h v l) : ∃ p cap, v = .slice p l.length cap ∧ (l ≠ [] → ∃ b o, p = some ⟨b, o, none⟩ ∧ b < h.size ∧ (∀ i (hi : i < l.length), hc h ⟨b, o + i * 8, none⟩ = some (.int .i64 l[i].slot)) ∧ ∀ i (hi : i < l.length), rd h ⟨b, o + i * 8, none⟩ 8 = some (voteC l[i])) := by
  obtain ⟨p, cap, hv, hc1⟩ := Ts.open (enc := voteC) (n := 8) (fun _ => rfl) (by decide) s
  refine ⟨p, cap, hv, fun hne => ?_⟩
  obtain ⟨b, o, hp, hb, hcs⟩ := hc1 hne
  exact ⟨b, o, hp, hb, fun i hi => (hcs i hi).hc (i := 0) rfl, fun i hi => (hcs i hi).rd (by simp [voteC]) rfl⟩
def slotAt (l : List Vt) (j : Nat) : Int := ((l[j]?).map (·.slot)).getD (-1)
def lastOf (l : List Vt) (i : Nat) : Int := if i = 0 then -1 else slotAt l (i - 1)
def good (p : Bal) (l : List Vt) (i : Nat) : Bool := match l[i]? with
  | some v => decide (voteMay v ∧ ¬ below p v.b ∧ (i = 0 ∨ slotAt l (i - 1) < v.slot))
  | none => true
def accErr (p : Bal) (l : List Vt) : Int := if ¬ ballotMay p ∧ ¬ (p.r = 0 ∧ p.n = 0) then 5 else if (List.range l.length).all (good p l) = true then 0 else 5
theorem slotAt_of {l : List Vt} {j : Nat} (hj : j < l.length) : slotAt l j = l[j].slot := by
  unfold slotAt; rw [List.getElem?_eq_getElem hj]; rfl
theorem good_iff {p : Bal} {l : List Vt} {i : Nat} (hi : i < l.length) : good p l i = true ↔ voteMay l[i] ∧ ¬ below p l[i].b ∧ (i = 0 ∨ slotAt l (i - 1) < l[i].slot) := by
  unfold good
  rw [List.getElem?_eq_getElem hi]
  simp only [decide_eq_true_eq]
theorem good_last {p : Bal} {l : List Vt} {i : Nat} (hi : i < l.length) : good p l i = true ↔ voteMay l[i] ∧ ¬ below p l[i].b ∧ lastOf l i < l[i].slot := by
  rw [good_iff hi]
  unfold lastOf
  by_cases h0 : i = 0
  · rw [if_pos h0]
    constructor
    · rintro ⟨h1, h2, _⟩; exact ⟨h1, h2, by have := h1.1.1; omega⟩
    · rintro ⟨h1, h2, _⟩; exact ⟨h1, h2, .inl h0⟩
  · rw [if_neg h0]
    constructor
    · rintro ⟨h1, h2, h3⟩; exact ⟨h1, h2, h3.resolve_left h0⟩
    · rintro ⟨h1, h2, h3⟩; exact ⟨h1, h2, .inr h3⟩
theorem accErr_good {p : Bal} {l : List Vt} (hp : ¬ (¬ ballotMay p ∧ ¬ (p.r = 0 ∧ p.n = 0))) (hg : ∀ j, j < l.length → good p l j = true) : accErr p l = 0 := by
  unfold accErr
  rw [if_neg hp, if_pos (List.all_eq_true.2 fun i hi => hg i (List.mem_range.1 hi))]
theorem accErr_bad {p : Bal} {l : List Vt} {i : Nat} (hi : i < l.length) (hb : good p l i = false) : accErr p l = 5 := by
  unfold accErr
  split
  · rfl
  · rw [if_neg]
    intro h
    have := List.all_eq_true.1 h i (List.mem_range.2 hi)
    rw [hb] at this; cases this
def accC (p : Bal) (v : Value) : List Value := [.int .i64 p.r, .int .i64 p.n, v]
theorem paxosCheck_ok (T : World) (h : Hp) (p : Bal) (u : Value) (l : List Vt) (s : Ts voteC 8 h u l) (hlen : l.length ≤ 4611686018427387904) :
    CallsH Try.prog T 20 #[.agg (accC p u).toArray] h fun v' h' => v' = .int .i64 (accErr p l) ∧ Bel h.size h h' := by
  obtain ⟨pv, cv, rfl, hcs⟩ := votes_open s
  refine CallsH.of_code' (args := [_]) Try.func20 rfl rfl rfl rfl ?_
  unfold accC
  by_cases z : p.r = 0 ∧ p.n = 0
  · obtain ⟨z1, z2⟩ := z
    have hnot : ¬ (¬ ballotMay p ∧ ¬ (p.r = 0 ∧ p.n = 0)) := fun h => h.2 ⟨z1, z2⟩
    simp (config := {maxSteps := 2000000, implicitDefEqProofs := false}) only [go_sem, ↓reduceIte, Nat.reduceEqDiff, Nat.reduceAdd, Nat.reduceMul, Nat.reduceLeDiff, Nat.reduceLT, Nat.reduceSub, IntWalk.iteOmega, IntWalk.toNatUp, reduceCtorEq, false_and, and_false, false_or, or_false, true_or, or_true, not_true_eq_false, not_false_eq_true, Bool.not_true, Bool.not_false, Bool.and_true, Bool.true_and, Bool.and_false, Bool.false_and, Bool.not_eq_true, beq_self_eq_true, Nat.add_zero, Int.reduceLE, Int.reduceLT, Int.reduceToNat, Int.reduceNeg, z1, z2]
    obtain ⟨H, hH⟩ : ∃ H : Hp, H = h.push (.cells [.int .i64 0, .int .i64 0, .slice pv l.length cv].toArray 41) := ⟨_, rfl⟩
    have x0 : H[h.size]? = some (.cells (accC p (.slice pv l.length cv)).toArray 41) := by rw [hH]; unfold accC; rw [z1, z2]; exact get_push_last
    have hHb : Bel h.size h H := by rw [hH]; (repeat' (first | exact Bel.refl _ _ | assumption | refine Bel.add ?_ _ | refine Bel.addSet ?_ (by first | omega | (simp; omega)) _ | refine Bel.trans (by assumption) ?_))
    rw [← hH]
    clear hH
    have hz := lt_of_get x0
    refine VS.loop' (fun F g => Bel H.size H g ∧ F 1 = .pointer (some ⟨h.size, 0, none⟩) ∧ F 17 = .slice pv l.length cv ∧ F 18 = .int .i64 l.length ∧ ∃ i : Nat, i ≤ l.length ∧ F 19 = .int .i64 i ∧ F 3 = .int .i64 (lastOf l i) ∧ ∀ j, j < i → good p l j = true)
      (fun F _ => l.length - (vi (F 19)).toNat) rfl ⟨Bel.refl _ _, rfl, rfl, rfl, 0, by omega, rfl, rfl, fun j hj => by omega⟩ ?_
    rintro F g ⟨hg, f1, f17, f18, i, hi, f19, f3, hall⟩
    have hgs := hg.size
    have hBg : Bel h.size h g := hHb.trans (hg.mono (by omega))
    by_cases hlt : i < l.length
    · have hlt' : (i : Int) < l.length := by omega
      obtain ⟨bb, oo, rfl, hbb, hcs0, hcs⟩ := hcs (by intro e; rw [e] at hlt; simp at hlt)
      have hbb1 : bb < H.size := by have := hHb.size; omega
      have r1 : rd g ⟨bb, oo + i * 8, none⟩ 8 = some (voteC l[i]) := by
        rw [rd_bel hBg (by exact hbb)]; exact hcs i hlt
      have rp : rd g ⟨h.size, 0, none⟩ 2 = some [.int .i64 p.r, .int .i64 p.n] := by rw [rd_bel hg (by exact hz), rd_part x0 (by simp [accC])]; rfl
      have hsl := slotAt_of hlt
      have gl := good_last (p := p) hlt
      obtain ⟨v, hv⟩ : ∃ v, v = l[i] := ⟨_, rfl⟩
      rw [← hv] at r1 gl hsl
      unfold voteC at r1
      have hnext : lastOf l (i + 1) = v.slot := by unfold lastOf; rw [if_neg (by omega), Nat.add_sub_cancel]; exact hsl
      simp (config := {maxSteps := 2000000, implicitDefEqProofs := false}) only [go_sem, ↓reduceIte, Nat.reduceEqDiff, Nat.reduceAdd, Nat.reduceMul, Nat.reduceLeDiff, Nat.reduceLT, Nat.reduceSub, IntWalk.iteOmega, IntWalk.toNatUp, reduceCtorEq, false_and, and_false, false_or, or_false, true_or, or_true, not_true_eq_false, not_false_eq_true, Bool.not_true, Bool.not_false, Bool.and_true, Bool.true_and, Bool.and_false, Bool.false_and, Bool.not_eq_true, beq_self_eq_true, Nat.add_zero, Int.reduceLE, Int.reduceLT, Int.reduceToNat, Int.reduceNeg, f1, f17, f18, f19, hlt', r1]
      refine (vote_ok T _ v).use ?_
      rintro _ g1 ⟨rfl, b1⟩
      have b1s := b1.size
      simp only [Array.size_push] at b1s
      have y0 : g1[g.size]? = some (.cells [.int .i64 v.slot, .int .i64 v.b.r, .int .i64 v.b.n, .int .i64 v.k, .int .i64 v.c, .int .i64 v.s, .int .i64 v.nm, .int .i64 v.v].toArray 43) := b1.get (by simp) get_push_last
      have y1 : hc g1 ⟨g.size, 0, none⟩ = some (.int .i64 v.slot) := by rw [hc_last y0]; rfl
      have y2 : rd g1 ⟨g.size, 1, none⟩ 2 = some [.int .i64 v.b.r, .int .i64 v.b.n] := by rw [rd_part y0 (by simp)]; rfl
      have hgp : Bel g.size g g1 := (Bel.push (Nat.le_refl _) _).trans (b1.mono (by simp))
      have y3 : rd g1 ⟨h.size, 0, none⟩ 2 = some [.int .i64 p.r, .int .i64 p.n] := by rw [rd_bel hgp (by show h.size < g.size; omega)]; exact rp
      have hB1 : Bel h.size h g1 := hBg.trans (hgp.mono (by omega))
      have hg1 : Bel H.size H g1 := hg.trans (hgp.mono (by omega))
      by_cases c1 : voteMay v
      · by_cases c2 : v.slot ≤ lastOf l i
        · have e := accErr_bad (p := p) hlt (by cases hv' : good p l i with | false => rfl | true => exact absurd (gl.1 hv').2.2 (by omega))
          simp (config := {maxSteps := 2000000, implicitDefEqProofs := false}) only [go_sem, ↓reduceIte, Nat.reduceEqDiff, Nat.reduceAdd, Nat.reduceMul, Nat.reduceLeDiff, Nat.reduceLT, Nat.reduceSub, IntWalk.iteOmega, IntWalk.toNatUp, reduceCtorEq, false_and, and_false, false_or, or_false, true_or, or_true, not_true_eq_false, not_false_eq_true, Bool.not_true, Bool.not_false, Bool.and_true, Bool.true_and, Bool.and_false, Bool.false_and, Bool.not_eq_true, beq_self_eq_true, Nat.add_zero, Int.reduceLE, Int.reduceLT, Int.reduceToNat, Int.reduceNeg, f1, f3, c1, c2, y1, e, hB1]
        · simp (config := {maxSteps := 2000000, implicitDefEqProofs := false}) only [go_sem, ↓reduceIte, Nat.reduceEqDiff, Nat.reduceAdd, Nat.reduceMul, Nat.reduceLeDiff, Nat.reduceLT, Nat.reduceSub, IntWalk.iteOmega, IntWalk.toNatUp, reduceCtorEq, false_and, and_false, false_or, or_false, true_or, or_true, not_true_eq_false, not_false_eq_true, Bool.not_true, Bool.not_false, Bool.and_true, Bool.true_and, Bool.and_false, Bool.false_and, Bool.not_eq_true, beq_self_eq_true, Nat.add_zero, Int.reduceLE, Int.reduceLT, Int.reduceToNat, Int.reduceNeg, f1, f3, c1, c2, y1, y2, y3]
          refine (compare_ok T _ v.b p).use ?_
          rintro _ g2 ⟨rfl, b2⟩
          have y4 : hc g2 ⟨g.size, 0, none⟩ = some (.int .i64 v.slot) := by rw [b2.hc (by show g.size < g1.size; omega)]; exact y1
          have hB2 : Bel h.size h g2 := hB1.trans (b2.mono (by have := hB1.size; omega))
          have hg2 : Bel H.size H g2 := hg1.trans (b2.mono (by have := hg1.size; omega))
          by_cases c3 : below p v.b
          · have e := accErr_bad (p := p) hlt (by cases hv' : good p l i with | false => rfl | true => exact absurd c3 (gl.1 hv').2.1)
            have c3' := (bcmp_pos v.b p).2 c3
            simp (config := {maxSteps := 2000000, implicitDefEqProofs := false}) only [go_sem, ↓reduceIte, Nat.reduceEqDiff, Nat.reduceAdd, Nat.reduceMul, Nat.reduceLeDiff, Nat.reduceLT, Nat.reduceSub, IntWalk.iteOmega, IntWalk.toNatUp, reduceCtorEq, false_and, and_false, false_or, or_false, true_or, or_true, not_true_eq_false, not_false_eq_true, Bool.not_true, Bool.not_false, Bool.and_true, Bool.true_and, Bool.and_false, Bool.false_and, Bool.not_eq_true, beq_self_eq_true, Nat.add_zero, Int.reduceLE, Int.reduceLT, Int.reduceToNat, Int.reduceNeg, c3', e, hB2]
          · have c3' : ¬ 0 < bcmp v.b p := fun h => c3 ((bcmp_pos v.b p).1 h)
            simp (config := {maxSteps := 2000000, implicitDefEqProofs := false}) only [go_sem, ↓reduceIte, Nat.reduceEqDiff, Nat.reduceAdd, Nat.reduceMul, Nat.reduceLeDiff, Nat.reduceLT, Nat.reduceSub, IntWalk.iteOmega, IntWalk.toNatUp, reduceCtorEq, false_and, and_false, false_or, or_false, true_or, or_true, not_true_eq_false, not_false_eq_true, Bool.not_true, Bool.not_false, Bool.and_true, Bool.true_and, Bool.and_false, Bool.false_and, Bool.not_eq_true, beq_self_eq_true, Nat.add_zero, Int.reduceLE, Int.reduceLT, Int.reduceToNat, Int.reduceNeg, c3', f1, f17, f18, f19, y4]
            refine ⟨⟨hg2, f1, f17, f18, i + 1, hlt, rfl, by rw [hnext]; rfl, fun j hj => ?_⟩, ?_⟩
            · by_cases hji : j = i
              · subst hji; exact gl.2 ⟨c1, c3, by omega⟩
              · exact hall j (by omega)
            · simp only [vi, updo_some, ↓reduceIte, f19]; omega
      · have e := accErr_bad (p := p) hlt (by cases hv' : good p l i with | false => rfl | true => exact absurd (gl.1 hv').1 c1)
        simp (config := {maxSteps := 2000000, implicitDefEqProofs := false}) only [go_sem, ↓reduceIte, Nat.reduceEqDiff, Nat.reduceAdd, Nat.reduceMul, Nat.reduceLeDiff, Nat.reduceLT, Nat.reduceSub, IntWalk.iteOmega, IntWalk.toNatUp, reduceCtorEq, false_and, and_false, false_or, or_false, true_or, or_true, not_true_eq_false, not_false_eq_true, Bool.not_true, Bool.not_false, Bool.and_true, Bool.true_and, Bool.and_false, Bool.false_and, Bool.not_eq_true, beq_self_eq_true, Nat.add_zero, Int.reduceLE, Int.reduceLT, Int.reduceToNat, Int.reduceNeg, c1, e, hB1]
    · have hge : ¬ (i : Int) < l.length := by omega
      obtain rfl : i = l.length := by omega
      have e := accErr_good hnot hall
      simp (config := {maxSteps := 2000000, implicitDefEqProofs := false}) only [go_sem, ↓reduceIte, Nat.reduceEqDiff, Nat.reduceAdd, Nat.reduceMul, Nat.reduceLeDiff, Nat.reduceLT, Nat.reduceSub, IntWalk.iteOmega, IntWalk.toNatUp, reduceCtorEq, false_and, and_false, false_or, or_false, true_or, or_true, not_true_eq_false, not_false_eq_true, Bool.not_true, Bool.not_false, Bool.and_true, Bool.true_and, Bool.and_false, Bool.false_and, Bool.not_eq_true, beq_self_eq_true, Nat.add_zero, Int.reduceLE, Int.reduceLT, Int.reduceToNat, Int.reduceNeg, f17, f18, f19, hge, e, hBg]
  · have z' : ¬ p.r = 0 ∨ ¬ p.n = 0 := by omega
    by_cases q : ballotMay p
    · have hnot : ¬ (¬ ballotMay p ∧ ¬ (p.r = 0 ∧ p.n = 0)) := fun h => h.1 q
      have zz : (p.r = 0 ∧ p.n = 0) = False := eq_false z
      by_cases z1 : p.r = 0
      · have z2 : ¬ p.n = 0 := fun e => z ⟨z1, e⟩
        exact absurd q.1.1 (by omega)
      · simp (config := {maxSteps := 2000000, implicitDefEqProofs := false}) only [go_sem, ↓reduceIte, Nat.reduceEqDiff, Nat.reduceAdd, Nat.reduceMul, Nat.reduceLeDiff, Nat.reduceLT, Nat.reduceSub, IntWalk.iteOmega, IntWalk.toNatUp, reduceCtorEq, false_and, and_false, false_or, or_false, true_or, or_true, not_true_eq_false, not_false_eq_true, Bool.not_true, Bool.not_false, Bool.and_true, Bool.true_and, Bool.and_false, Bool.false_and, Bool.not_eq_true, beq_self_eq_true, Nat.add_zero, Int.reduceLE, Int.reduceLT, Int.reduceToNat, Int.reduceNeg, z1]
        refine (ballot_ok T _ p).use ?_
        rintro _ _ ⟨rfl, rfl⟩
        simp (config := {maxSteps := 2000000, implicitDefEqProofs := false}) only [go_sem, ↓reduceIte, Nat.reduceEqDiff, Nat.reduceAdd, Nat.reduceMul, Nat.reduceLeDiff, Nat.reduceLT, Nat.reduceSub, IntWalk.iteOmega, IntWalk.toNatUp, reduceCtorEq, false_and, and_false, false_or, or_false, true_or, or_true, not_true_eq_false, not_false_eq_true, Bool.not_true, Bool.not_false, Bool.and_true, Bool.true_and, Bool.and_false, Bool.false_and, Bool.not_eq_true, beq_self_eq_true, Nat.add_zero, Int.reduceLE, Int.reduceLT, Int.reduceToNat, Int.reduceNeg, q]
        obtain ⟨H, hH⟩ : ∃ H : Hp, H = (h.push (.cells [.int .i64 p.r, .int .i64 p.n, .slice pv l.length cv].toArray 41)).push (.cells (balC p).toArray 38) := ⟨_, rfl⟩
        have x0 : H[h.size]? = some (.cells (accC p (.slice pv l.length cv)).toArray 41) := by rw [hH]; simp only [Array.getElem?_push, Array.size_push, IntWalk.iteOmega, ↓reduceIte]; rfl
        have hHb : Bel h.size h H := by rw [hH]; (repeat' (first | exact Bel.refl _ _ | assumption | refine Bel.add ?_ _ | refine Bel.addSet ?_ (by first | omega | (simp; omega)) _ | refine Bel.trans (by assumption) ?_))
        rw [← hH]
        clear hH
        have hz := lt_of_get x0
        refine VS.loop' (fun F g => Bel H.size H g ∧ F 1 = .pointer (some ⟨h.size, 0, none⟩) ∧ F 17 = .slice pv l.length cv ∧ F 18 = .int .i64 l.length ∧ ∃ i : Nat, i ≤ l.length ∧ F 19 = .int .i64 i ∧ F 3 = .int .i64 (lastOf l i) ∧ ∀ j, j < i → good p l j = true)
          (fun F _ => l.length - (vi (F 19)).toNat) rfl ⟨Bel.refl _ _, rfl, rfl, rfl, 0, by omega, rfl, rfl, fun j hj => by omega⟩ ?_
        rintro F g ⟨hg, f1, f17, f18, i, hi, f19, f3, hall⟩
        have hgs := hg.size
        have hBg : Bel h.size h g := hHb.trans (hg.mono (by omega))
        by_cases hlt : i < l.length
        · have hlt' : (i : Int) < l.length := by omega
          obtain ⟨bb, oo, rfl, hbb, hcs0, hcs⟩ := hcs (by intro e; rw [e] at hlt; simp at hlt)
          have hbb1 : bb < H.size := by have := hHb.size; omega
          have r1 : rd g ⟨bb, oo + i * 8, none⟩ 8 = some (voteC l[i]) := by
            rw [rd_bel hBg (by exact hbb)]; exact hcs i hlt
          have rp : rd g ⟨h.size, 0, none⟩ 2 = some [.int .i64 p.r, .int .i64 p.n] := by rw [rd_bel hg (by exact hz), rd_part x0 (by simp [accC])]; rfl
          have hsl := slotAt_of hlt
          have gl := good_last (p := p) hlt
          obtain ⟨v, hv⟩ : ∃ v, v = l[i] := ⟨_, rfl⟩
          rw [← hv] at r1 gl hsl
          unfold voteC at r1
          have hnext : lastOf l (i + 1) = v.slot := by unfold lastOf; rw [if_neg (by omega), Nat.add_sub_cancel]; exact hsl
          simp (config := {maxSteps := 2000000, implicitDefEqProofs := false}) only [go_sem, ↓reduceIte, Nat.reduceEqDiff, Nat.reduceAdd, Nat.reduceMul, Nat.reduceLeDiff, Nat.reduceLT, Nat.reduceSub, IntWalk.iteOmega, IntWalk.toNatUp, reduceCtorEq, false_and, and_false, false_or, or_false, true_or, or_true, not_true_eq_false, not_false_eq_true, Bool.not_true, Bool.not_false, Bool.and_true, Bool.true_and, Bool.and_false, Bool.false_and, Bool.not_eq_true, beq_self_eq_true, Nat.add_zero, Int.reduceLE, Int.reduceLT, Int.reduceToNat, Int.reduceNeg, f1, f17, f18, f19, hlt', r1]
          refine (vote_ok T _ v).use ?_
          rintro _ g1 ⟨rfl, b1⟩
          have b1s := b1.size
          simp only [Array.size_push] at b1s
          have y0 : g1[g.size]? = some (.cells [.int .i64 v.slot, .int .i64 v.b.r, .int .i64 v.b.n, .int .i64 v.k, .int .i64 v.c, .int .i64 v.s, .int .i64 v.nm, .int .i64 v.v].toArray 43) := b1.get (by simp) get_push_last
          have y1 : hc g1 ⟨g.size, 0, none⟩ = some (.int .i64 v.slot) := by rw [hc_last y0]; rfl
          have y2 : rd g1 ⟨g.size, 1, none⟩ 2 = some [.int .i64 v.b.r, .int .i64 v.b.n] := by rw [rd_part y0 (by simp)]; rfl
          have hgp : Bel g.size g g1 := (Bel.push (Nat.le_refl _) _).trans (b1.mono (by simp))
          have y3 : rd g1 ⟨h.size, 0, none⟩ 2 = some [.int .i64 p.r, .int .i64 p.n] := by rw [rd_bel hgp (by show h.size < g.size; omega)]; exact rp
          have hB1 : Bel h.size h g1 := hBg.trans (hgp.mono (by omega))
          have hg1 : Bel H.size H g1 := hg.trans (hgp.mono (by omega))
          by_cases c1 : voteMay v
          · by_cases c2 : v.slot ≤ lastOf l i
            · have e := accErr_bad (p := p) hlt (by cases hv' : good p l i with | false => rfl | true => exact absurd (gl.1 hv').2.2 (by omega))
              simp (config := {maxSteps := 2000000, implicitDefEqProofs := false}) only [go_sem, ↓reduceIte, Nat.reduceEqDiff, Nat.reduceAdd, Nat.reduceMul, Nat.reduceLeDiff, Nat.reduceLT, Nat.reduceSub, IntWalk.iteOmega, IntWalk.toNatUp, reduceCtorEq, false_and, and_false, false_or, or_false, true_or, or_true, not_true_eq_false, not_false_eq_true, Bool.not_true, Bool.not_false, Bool.and_true, Bool.true_and, Bool.and_false, Bool.false_and, Bool.not_eq_true, beq_self_eq_true, Nat.add_zero, Int.reduceLE, Int.reduceLT, Int.reduceToNat, Int.reduceNeg, f1, f3, c1, c2, y1, e, hB1]
            · simp (config := {maxSteps := 2000000, implicitDefEqProofs := false}) only [go_sem, ↓reduceIte, Nat.reduceEqDiff, Nat.reduceAdd, Nat.reduceMul, Nat.reduceLeDiff, Nat.reduceLT, Nat.reduceSub, IntWalk.iteOmega, IntWalk.toNatUp, reduceCtorEq, false_and, and_false, false_or, or_false, true_or, or_true, not_true_eq_false, not_false_eq_true, Bool.not_true, Bool.not_false, Bool.and_true, Bool.true_and, Bool.and_false, Bool.false_and, Bool.not_eq_true, beq_self_eq_true, Nat.add_zero, Int.reduceLE, Int.reduceLT, Int.reduceToNat, Int.reduceNeg, f1, f3, c1, c2, y1, y2, y3]
              refine (compare_ok T _ v.b p).use ?_
              rintro _ g2 ⟨rfl, b2⟩
              have y4 : hc g2 ⟨g.size, 0, none⟩ = some (.int .i64 v.slot) := by rw [b2.hc (by show g.size < g1.size; omega)]; exact y1
              have hB2 : Bel h.size h g2 := hB1.trans (b2.mono (by have := hB1.size; omega))
              have hg2 : Bel H.size H g2 := hg1.trans (b2.mono (by have := hg1.size; omega))
              by_cases c3 : below p v.b
              · have e := accErr_bad (p := p) hlt (by cases hv' : good p l i with | false => rfl | true => exact absurd c3 (gl.1 hv').2.1)
                have c3' := (bcmp_pos v.b p).2 c3
                simp (config := {maxSteps := 2000000, implicitDefEqProofs := false}) only [go_sem, ↓reduceIte, Nat.reduceEqDiff, Nat.reduceAdd, Nat.reduceMul, Nat.reduceLeDiff, Nat.reduceLT, Nat.reduceSub, IntWalk.iteOmega, IntWalk.toNatUp, reduceCtorEq, false_and, and_false, false_or, or_false, true_or, or_true, not_true_eq_false, not_false_eq_true, Bool.not_true, Bool.not_false, Bool.and_true, Bool.true_and, Bool.and_false, Bool.false_and, Bool.not_eq_true, beq_self_eq_true, Nat.add_zero, Int.reduceLE, Int.reduceLT, Int.reduceToNat, Int.reduceNeg, c3', e, hB2]
              · have c3' : ¬ 0 < bcmp v.b p := fun h => c3 ((bcmp_pos v.b p).1 h)
                simp (config := {maxSteps := 2000000, implicitDefEqProofs := false}) only [go_sem, ↓reduceIte, Nat.reduceEqDiff, Nat.reduceAdd, Nat.reduceMul, Nat.reduceLeDiff, Nat.reduceLT, Nat.reduceSub, IntWalk.iteOmega, IntWalk.toNatUp, reduceCtorEq, false_and, and_false, false_or, or_false, true_or, or_true, not_true_eq_false, not_false_eq_true, Bool.not_true, Bool.not_false, Bool.and_true, Bool.true_and, Bool.and_false, Bool.false_and, Bool.not_eq_true, beq_self_eq_true, Nat.add_zero, Int.reduceLE, Int.reduceLT, Int.reduceToNat, Int.reduceNeg, c3', f1, f17, f18, f19, y4]
                refine ⟨⟨hg2, f1, f17, f18, i + 1, hlt, rfl, by rw [hnext]; rfl, fun j hj => ?_⟩, ?_⟩
                · by_cases hji : j = i
                  · subst hji; exact gl.2 ⟨c1, c3, by omega⟩
                  · exact hall j (by omega)
                · simp only [vi, updo_some, ↓reduceIte, f19]; omega
          · have e := accErr_bad (p := p) hlt (by cases hv' : good p l i with | false => rfl | true => exact absurd (gl.1 hv').1 c1)
            simp (config := {maxSteps := 2000000, implicitDefEqProofs := false}) only [go_sem, ↓reduceIte, Nat.reduceEqDiff, Nat.reduceAdd, Nat.reduceMul, Nat.reduceLeDiff, Nat.reduceLT, Nat.reduceSub, IntWalk.iteOmega, IntWalk.toNatUp, reduceCtorEq, false_and, and_false, false_or, or_false, true_or, or_true, not_true_eq_false, not_false_eq_true, Bool.not_true, Bool.not_false, Bool.and_true, Bool.true_and, Bool.and_false, Bool.false_and, Bool.not_eq_true, beq_self_eq_true, Nat.add_zero, Int.reduceLE, Int.reduceLT, Int.reduceToNat, Int.reduceNeg, c1, e, hB1]
        · have hge : ¬ (i : Int) < l.length := by omega
          obtain rfl : i = l.length := by omega
          have e := accErr_good hnot hall
          simp (config := {maxSteps := 2000000, implicitDefEqProofs := false}) only [go_sem, ↓reduceIte, Nat.reduceEqDiff, Nat.reduceAdd, Nat.reduceMul, Nat.reduceLeDiff, Nat.reduceLT, Nat.reduceSub, IntWalk.iteOmega, IntWalk.toNatUp, reduceCtorEq, false_and, and_false, false_or, or_false, true_or, or_true, not_true_eq_false, not_false_eq_true, Bool.not_true, Bool.not_false, Bool.and_true, Bool.true_and, Bool.and_false, Bool.false_and, Bool.not_eq_true, beq_self_eq_true, Nat.add_zero, Int.reduceLE, Int.reduceLT, Int.reduceToNat, Int.reduceNeg, f17, f18, f19, hge, e, hBg]
    · have e : accErr p l = 5 := by unfold accErr; rw [if_pos ⟨q, z⟩]
      by_cases z1 : p.r = 0
      · have z2 : ¬ p.n = 0 := fun e => z ⟨z1, e⟩
        have hb := ballot_ok T (h.push (.cells [.int .i64 0, .int .i64 p.n, .slice pv l.length cv].toArray 41)) p
        simp (config := {maxSteps := 2000000, implicitDefEqProofs := false}) only [go_sem, ↓reduceIte, Nat.reduceEqDiff, Nat.reduceAdd, Nat.reduceMul, Nat.reduceLeDiff, Nat.reduceLT, Nat.reduceSub, IntWalk.iteOmega, IntWalk.toNatUp, reduceCtorEq, false_and, and_false, false_or, or_false, true_or, or_true, not_true_eq_false, not_false_eq_true, Bool.not_true, Bool.not_false, Bool.and_true, Bool.true_and, Bool.and_false, Bool.false_and, Bool.not_eq_true, beq_self_eq_true, Nat.add_zero, Int.reduceLE, Int.reduceLT, Int.reduceToNat, Int.reduceNeg, z1, z2]
        unfold balC at hb
        rw [z1] at hb
        refine hb.use ?_
        rintro _ _ ⟨rfl, rfl⟩
        simp (config := {maxSteps := 2000000, implicitDefEqProofs := false}) only [go_sem, ↓reduceIte, Nat.reduceEqDiff, Nat.reduceAdd, Nat.reduceMul, Nat.reduceLeDiff, Nat.reduceLT, Nat.reduceSub, IntWalk.iteOmega, IntWalk.toNatUp, reduceCtorEq, false_and, and_false, false_or, or_false, true_or, or_true, not_true_eq_false, not_false_eq_true, Bool.not_true, Bool.not_false, Bool.and_true, Bool.true_and, Bool.and_false, Bool.false_and, Bool.not_eq_true, beq_self_eq_true, Nat.add_zero, Int.reduceLE, Int.reduceLT, Int.reduceToNat, Int.reduceNeg, q, e]
      · simp (config := {maxSteps := 2000000, implicitDefEqProofs := false}) only [go_sem, ↓reduceIte, Nat.reduceEqDiff, Nat.reduceAdd, Nat.reduceMul, Nat.reduceLeDiff, Nat.reduceLT, Nat.reduceSub, IntWalk.iteOmega, IntWalk.toNatUp, reduceCtorEq, false_and, and_false, false_or, or_false, true_or, or_true, not_true_eq_false, not_false_eq_true, Bool.not_true, Bool.not_false, Bool.and_true, Bool.true_and, Bool.and_false, Bool.false_and, Bool.not_eq_true, beq_self_eq_true, Nat.add_zero, Int.reduceLE, Int.reduceLT, Int.reduceToNat, Int.reduceNeg, z1]
        refine (ballot_ok T _ p).use ?_
        rintro _ _ ⟨rfl, rfl⟩
        simp (config := {maxSteps := 2000000, implicitDefEqProofs := false}) only [go_sem, ↓reduceIte, Nat.reduceEqDiff, Nat.reduceAdd, Nat.reduceMul, Nat.reduceLeDiff, Nat.reduceLT, Nat.reduceSub, IntWalk.iteOmega, IntWalk.toNatUp, reduceCtorEq, false_and, and_false, false_or, or_false, true_or, or_true, not_true_eq_false, not_false_eq_true, Bool.not_true, Bool.not_false, Bool.and_true, Bool.true_and, Bool.and_false, Bool.false_and, Bool.not_eq_true, beq_self_eq_true, Nat.add_zero, Int.reduceLE, Int.reduceLT, Int.reduceToNat, Int.reduceNeg, q, e]
theorem acceptorFault_ok (T : World) (h : Hp) (p : Bal) (u : Value) (l : List Vt) (s : Ts voteC 8 h u l) (hlen : l.length ≤ 4611686018427387904) :
    CallsH Try.prog T 22 #[.agg (accC p u).toArray] h fun v' h' => v' = .int .i64 (accErr p l) ∧ Bel h.size h h' := by
  obtain ⟨pv, cv, rfl, hcs⟩ := votes_open s
  refine CallsH.of_code' (args := [_]) Try.func22 rfl rfl rfl rfl ?_
  unfold accC
  simp (config := {maxSteps := 2000000, implicitDefEqProofs := false}) only [go_sem, ↓reduceIte, Nat.reduceEqDiff, Nat.reduceAdd, Nat.reduceMul, Nat.reduceLeDiff, Nat.reduceLT, Nat.reduceSub, IntWalk.iteOmega, IntWalk.toNatUp, reduceCtorEq, false_and, and_false, false_or, or_false, true_or, or_true, not_true_eq_false, not_false_eq_true, Bool.not_true, Bool.not_false, Bool.and_true, Bool.true_and, Bool.and_false, Bool.false_and, Bool.not_eq_true, beq_self_eq_true, Nat.add_zero, Int.reduceLE, Int.reduceLT, Int.reduceToNat, Int.reduceNeg]
  refine (ballotMay_ok T _ p).use ?_
  rintro _ _ ⟨rfl, rfl⟩
  obtain ⟨H, hH⟩ : ∃ H : Hp, H = (h.push (.cells [.int .i64 p.r, .int .i64 p.n, .slice pv l.length cv].toArray 41)).push (.cells (balC p).toArray 38) := ⟨_, rfl⟩
  have x0 : H[h.size]? = some (.cells (accC p (.slice pv l.length cv)).toArray 41) := by rw [hH]; simp only [Array.getElem?_push, Array.size_push, IntWalk.iteOmega, ↓reduceIte]; rfl
  have hHb : Bel h.size h H := by rw [hH]; (repeat' (first | exact Bel.refl _ _ | assumption | refine Bel.add ?_ _ | refine Bel.addSet ?_ (by first | omega | (simp; omega)) _ | refine Bel.trans (by assumption) ?_))
  rw [← hH]
  clear hH
  have hz := lt_of_get x0
  have p0 : hc H ⟨h.size, 0, none⟩ = some (.int .i64 p.r) := by rw [hc_last x0]; rfl
  have p1 : hc H ⟨h.size, 1, none⟩ = some (.int .i64 p.n) := by rw [hc_last x0]; rfl
  by_cases q : ballotMay p
  · have hnot : ¬ (¬ ballotMay p ∧ ¬ (p.r = 0 ∧ p.n = 0)) := fun h => h.1 q
    simp (config := {maxSteps := 2000000, implicitDefEqProofs := false}) only [go_sem, ↓reduceIte, Nat.reduceEqDiff, Nat.reduceAdd, Nat.reduceMul, Nat.reduceLeDiff, Nat.reduceLT, Nat.reduceSub, IntWalk.iteOmega, IntWalk.toNatUp, reduceCtorEq, false_and, and_false, false_or, or_false, true_or, or_true, not_true_eq_false, not_false_eq_true, Bool.not_true, Bool.not_false, Bool.and_true, Bool.true_and, Bool.and_false, Bool.false_and, Bool.not_eq_true, beq_self_eq_true, Nat.add_zero, Int.reduceLE, Int.reduceLT, Int.reduceToNat, Int.reduceNeg, q]
    refine VS.loop' (fun F g => Bel H.size H g ∧ F 1 = .pointer (some ⟨h.size, 0, none⟩) ∧ ∃ i : Nat, i ≤ l.length ∧ F 3 = .int .i64 i ∧ ∀ j, j < i → good p l j = true)
      (fun F _ => l.length - (vi (F 3)).toNat) rfl ⟨Bel.refl _ _, rfl, 0, by omega, rfl, fun j hj => by omega⟩ ?_
    rintro F g ⟨hg, f1, i, hi, f3, hall⟩
    have hgs := hg.size
    have hBg : Bel h.size h g := hHb.trans (hg.mono (by omega))
    have rv : hc g ⟨h.size, 2, none⟩ = some (.slice pv l.length cv) := by rw [hg.hc (by exact hz), hc_last x0]; rfl
    by_cases hlt : i < l.length
    · have hlt' : (i : Int) < l.length := by omega
      obtain ⟨bb, oo, rfl, hbb, hcs0, hcs⟩ := hcs (by intro e; rw [e] at hlt; simp at hlt)
      have hbb1 : bb < H.size := by have := hHb.size; omega
      have hbg : bb < g.size := by omega
      have r1 : rd g ⟨bb, oo + i * 8, none⟩ 8 = some (voteC l[i]) := by
        rw [rd_bel hBg (by exact hbb)]; exact hcs i hlt
      have rp : rd g ⟨h.size, 0, none⟩ 2 = some [.int .i64 p.r, .int .i64 p.n] := by rw [rd_bel hg (by exact hz), rd_part x0 (by simp [accC])]; rfl
      have gi := good_iff (p := p) hlt
      have hlast : i ≠ 0 → hc g ⟨bb, oo + (i - 1) * 8, none⟩ = some (.int .i64 (slotAt l (i - 1))) := by
        intro h0
        have hj : i - 1 < l.length := by omega
        rw [slotAt_of hj, hBg.hc (by exact hbb)]
        exact hcs0 (i - 1) hj
      obtain ⟨v, hv⟩ : ∃ v, v = l[i] := ⟨_, rfl⟩
      rw [← hv] at r1 gi
      unfold voteC at r1
      simp (config := {maxSteps := 2000000, implicitDefEqProofs := false}) only [go_sem, ↓reduceIte, Nat.reduceEqDiff, Nat.reduceAdd, Nat.reduceMul, Nat.reduceLeDiff, Nat.reduceLT, Nat.reduceSub, IntWalk.iteOmega, IntWalk.toNatUp, reduceCtorEq, false_and, and_false, false_or, or_false, true_or, or_true, not_true_eq_false, not_false_eq_true, Bool.not_true, Bool.not_false, Bool.and_true, Bool.true_and, Bool.and_false, Bool.false_and, Bool.not_eq_true, beq_self_eq_true, Nat.add_zero, Int.reduceLE, Int.reduceLT, Int.reduceToNat, Int.reduceNeg, f1, f3, rv, hlt', r1]
      have hzg : h.size < g.size := by omega
      refine VS.w (g.size + 1) [] (.q 0 (.s 1 (.q 2 (.q 3 (.q 4 (.q 5 (.q 6 (.q 7 (.s 8 (.q 9 (.q 10 (.q 11 (.q 12 (.q 13 (.q 14 (.q 15 (.q 16 (.q 17 (.q 18 (.q 19 (.q 20 (.q 21 (.q 22 (.q 23 (.q 24 (.q 25 .nil)))))))))))))))))))))))))) mixed (by kernel_rfl) ?_
      have q0 : g.size < g.size + 1 := by omega
      simp (config := {maxSteps := 2000000, implicitDefEqProofs := false}) only [go_sem, ↓reduceIte, Nat.reduceEqDiff, Nat.reduceAdd, Nat.reduceMul, Nat.reduceLeDiff, Nat.reduceLT, Nat.reduceSub, IntWalk.iteOmega, IntWalk.toNatUp, reduceCtorEq, false_and, and_false, false_or, or_false, true_or, or_true, not_true_eq_false, not_false_eq_true, Bool.not_true, Bool.not_false, Bool.and_true, Bool.true_and, Bool.and_false, Bool.false_and, Bool.not_eq_true, beq_self_eq_true, Nat.add_zero, Int.reduceLE, Int.reduceLT, Int.reduceToNat, Int.reduceNeg, q0]
      refine (voteMay_ok T _ v).use ?_
      rintro _ g1 ⟨rfl, b1⟩
      have b1s := b1.size
      simp only [Array.size_push] at b1s
      have hgp : Bel g.size g g1 := (Bel.push (Nat.le_refl _) _).trans (b1.mono (by simp))
      have hB1 : Bel h.size h g1 := hBg.trans (hgp.mono (by omega))
      have hg1 : Bel H.size H g1 := hg.trans (hgp.mono (by omega))
      have b1' := b1
      rw [Array.size_push] at b1'
      have q1' : h.size < g.size + 1 := by omega
      have q2' : bb < g.size + 1 := by omega
      by_cases c1 : voteMay v
      · simp (config := {maxSteps := 2000000, implicitDefEqProofs := false}) only [go_sem, ↓reduceIte, Nat.reduceEqDiff, Nat.reduceAdd, Nat.reduceMul, Nat.reduceLeDiff, Nat.reduceLT, Nat.reduceSub, IntWalk.iteOmega, IntWalk.toNatUp, reduceCtorEq, false_and, and_false, false_or, or_false, true_or, or_true, not_true_eq_false, not_false_eq_true, Bool.not_true, Bool.not_false, Bool.and_true, Bool.true_and, Bool.and_false, Bool.false_and, Bool.not_eq_true, beq_self_eq_true, Nat.add_zero, Int.reduceLE, Int.reduceLT, Int.reduceToNat, Int.reduceNeg, c1, f1, rp, q0, q1']
        refine ⟨b1', ?_⟩
        refine (ballotBelow_ok T _ p v.b).use ?_
        rintro _ g2 ⟨rfl, b2⟩
        have hB2 : Bel h.size h g2 := hB1.trans (b2.mono (by have := hB1.size; omega))
        have hg2 : Bel H.size H g2 := hg1.trans (b2.mono (by have := hg1.size; omega))
        have b2' := b1'.trans (b2.mono (by omega))
        by_cases c2 : below p v.b
        · have e := accErr_bad (p := p) hlt (by cases hv' : good p l i with | false => rfl | true => exact absurd c2 (gi.1 hv').2.1)
          simp (config := {maxSteps := 2000000, implicitDefEqProofs := false}) only [go_sem, ↓reduceIte, Nat.reduceEqDiff, Nat.reduceAdd, Nat.reduceMul, Nat.reduceLeDiff, Nat.reduceLT, Nat.reduceSub, IntWalk.iteOmega, IntWalk.toNatUp, reduceCtorEq, false_and, and_false, false_or, or_false, true_or, or_true, not_true_eq_false, not_false_eq_true, Bool.not_true, Bool.not_false, Bool.and_true, Bool.true_and, Bool.and_false, Bool.false_and, Bool.not_eq_true, beq_self_eq_true, Nat.add_zero, Int.reduceLE, Int.reduceLT, Int.reduceToNat, Int.reduceNeg, c2, e]
          exact ⟨b2', hB2⟩
        · by_cases c3 : i = 0
          · subst c3
            have i0 : ¬ 0 < ((0 : Nat) : Int) := by decide
            simp (config := {maxSteps := 2000000, implicitDefEqProofs := false}) only [go_sem, ↓reduceIte, Nat.reduceEqDiff, Nat.reduceAdd, Nat.reduceMul, Nat.reduceLeDiff, Nat.reduceLT, Nat.reduceSub, IntWalk.iteOmega, IntWalk.toNatUp, reduceCtorEq, false_and, and_false, false_or, or_false, true_or, or_true, not_true_eq_false, not_false_eq_true, Bool.not_true, Bool.not_false, Bool.and_true, Bool.true_and, Bool.and_false, Bool.false_and, Bool.not_eq_true, beq_self_eq_true, Nat.add_zero, Int.reduceLE, Int.reduceLT, Int.reduceToNat, Int.reduceNeg, c2, f1, f3, i0]
            refine ⟨b2', ⟨hg2, f1, 1, by omega, rfl, fun j hj => ?_⟩, ?_⟩
            · obtain rfl : j = 0 := by omega
              exact gi.2 ⟨c1, c2, .inl rfl⟩
            · simp only [vi, updo_some, ↓reduceIte, f3]; omega
          · have i0 : 0 < (i : Int) := by omega
            have rl := hlast c3
            have i1 : ((i : Int) - 1).toNat = i - 1 := by omega
            have i2 : 0 ≤ (i : Int) - 1 := by omega
            have i3 : (i : Int) - 1 < l.length := by omega
            have rv' := rv
            by_cases c4 : v.slot ≤ slotAt l (i - 1)
            · have e := accErr_bad (p := p) hlt (by cases hv' : good p l i with | false => rfl | true => exact absurd ((gi.1 hv').2.2.resolve_left c3) (by omega))
              simp (config := {maxSteps := 2000000, implicitDefEqProofs := false}) only [go_sem, ↓reduceIte, Nat.reduceEqDiff, Nat.reduceAdd, Nat.reduceMul, Nat.reduceLeDiff, Nat.reduceLT, Nat.reduceSub, IntWalk.iteOmega, IntWalk.toNatUp, reduceCtorEq, false_and, and_false, false_or, or_false, true_or, or_true, not_true_eq_false, not_false_eq_true, Bool.not_true, Bool.not_false, Bool.and_true, Bool.true_and, Bool.and_false, Bool.false_and, Bool.not_eq_true, beq_self_eq_true, Nat.add_zero, Int.reduceLE, Int.reduceLT, Int.reduceToNat, Int.reduceNeg, c2, f1, f3, i0, i1, rl, rv, q0, q1', q2', c4, e]
              exact ⟨b2', hB2⟩
            · simp (config := {maxSteps := 2000000, implicitDefEqProofs := false}) only [go_sem, ↓reduceIte, Nat.reduceEqDiff, Nat.reduceAdd, Nat.reduceMul, Nat.reduceLeDiff, Nat.reduceLT, Nat.reduceSub, IntWalk.iteOmega, IntWalk.toNatUp, reduceCtorEq, false_and, and_false, false_or, or_false, true_or, or_true, not_true_eq_false, not_false_eq_true, Bool.not_true, Bool.not_false, Bool.and_true, Bool.true_and, Bool.and_false, Bool.false_and, Bool.not_eq_true, beq_self_eq_true, Nat.add_zero, Int.reduceLE, Int.reduceLT, Int.reduceToNat, Int.reduceNeg, c2, f1, f3, i0, i1, rl, rv, q0, q1', q2', c4]
              refine ⟨b2', ⟨hg2, f1, i + 1, by omega, rfl, fun j hj => ?_⟩, ?_⟩
              · by_cases hji : j = i
                · subst hji; exact gi.2 ⟨c1, c2, .inr (by omega)⟩
                · exact hall j (by omega)
              · simp only [vi, updo_some, ↓reduceIte, f3]; omega
      · have e := accErr_bad (p := p) hlt (by cases hv' : good p l i with | false => rfl | true => exact absurd (gi.1 hv').1 c1)
        simp (config := {maxSteps := 2000000, implicitDefEqProofs := false}) only [go_sem, ↓reduceIte, Nat.reduceEqDiff, Nat.reduceAdd, Nat.reduceMul, Nat.reduceLeDiff, Nat.reduceLT, Nat.reduceSub, IntWalk.iteOmega, IntWalk.toNatUp, reduceCtorEq, false_and, and_false, false_or, or_false, true_or, or_true, not_true_eq_false, not_false_eq_true, Bool.not_true, Bool.not_false, Bool.and_true, Bool.true_and, Bool.and_false, Bool.false_and, Bool.not_eq_true, beq_self_eq_true, Nat.add_zero, Int.reduceLE, Int.reduceLT, Int.reduceToNat, Int.reduceNeg, c1, e]
        exact ⟨b1', b1', hB1⟩
    · have hge : ¬ (i : Int) < l.length := by omega
      obtain rfl : i = l.length := by omega
      have e := accErr_good hnot hall
      simp (config := {maxSteps := 2000000, implicitDefEqProofs := false}) only [go_sem, ↓reduceIte, Nat.reduceEqDiff, Nat.reduceAdd, Nat.reduceMul, Nat.reduceLeDiff, Nat.reduceLT, Nat.reduceSub, IntWalk.iteOmega, IntWalk.toNatUp, reduceCtorEq, false_and, and_false, false_or, or_false, true_or, or_true, not_true_eq_false, not_false_eq_true, Bool.not_true, Bool.not_false, Bool.and_true, Bool.true_and, Bool.and_false, Bool.false_and, Bool.not_eq_true, beq_self_eq_true, Nat.add_zero, Int.reduceLE, Int.reduceLT, Int.reduceToNat, Int.reduceNeg, f1, f3, rv, hge, e, hBg]
  · by_cases z1 : p.r = 0
    · by_cases z2 : p.n = 0
      · have hnot : ¬ (¬ ballotMay p ∧ ¬ (p.r = 0 ∧ p.n = 0)) := fun h => h.2 ⟨z1, z2⟩
        rw [z1] at p0
        rw [z2] at p1
        simp (config := {maxSteps := 2000000, implicitDefEqProofs := false}) only [go_sem, ↓reduceIte, Nat.reduceEqDiff, Nat.reduceAdd, Nat.reduceMul, Nat.reduceLeDiff, Nat.reduceLT, Nat.reduceSub, IntWalk.iteOmega, IntWalk.toNatUp, reduceCtorEq, false_and, and_false, false_or, or_false, true_or, or_true, not_true_eq_false, not_false_eq_true, Bool.not_true, Bool.not_false, Bool.and_true, Bool.true_and, Bool.and_false, Bool.false_and, Bool.not_eq_true, beq_self_eq_true, Nat.add_zero, Int.reduceLE, Int.reduceLT, Int.reduceToNat, Int.reduceNeg, q, p0, p1]
        refine VS.loop' (fun F g => Bel H.size H g ∧ F 1 = .pointer (some ⟨h.size, 0, none⟩) ∧ ∃ i : Nat, i ≤ l.length ∧ F 3 = .int .i64 i ∧ ∀ j, j < i → good p l j = true)
          (fun F _ => l.length - (vi (F 3)).toNat) rfl ⟨Bel.refl _ _, rfl, 0, by omega, rfl, fun j hj => by omega⟩ ?_
        rintro F g ⟨hg, f1, i, hi, f3, hall⟩
        have hgs := hg.size
        have hBg : Bel h.size h g := hHb.trans (hg.mono (by omega))
        have rv : hc g ⟨h.size, 2, none⟩ = some (.slice pv l.length cv) := by rw [hg.hc (by exact hz), hc_last x0]; rfl
        by_cases hlt : i < l.length
        · have hlt' : (i : Int) < l.length := by omega
          obtain ⟨bb, oo, rfl, hbb, hcs0, hcs⟩ := hcs (by intro e; rw [e] at hlt; simp at hlt)
          have hbb1 : bb < H.size := by have := hHb.size; omega
          have hbg : bb < g.size := by omega
          have r1 : rd g ⟨bb, oo + i * 8, none⟩ 8 = some (voteC l[i]) := by
            rw [rd_bel hBg (by exact hbb)]; exact hcs i hlt
          have rp : rd g ⟨h.size, 0, none⟩ 2 = some [.int .i64 p.r, .int .i64 p.n] := by rw [rd_bel hg (by exact hz), rd_part x0 (by simp [accC])]; rfl
          have gi := good_iff (p := p) hlt
          have hlast : i ≠ 0 → hc g ⟨bb, oo + (i - 1) * 8, none⟩ = some (.int .i64 (slotAt l (i - 1))) := by
            intro h0
            have hj : i - 1 < l.length := by omega
            rw [slotAt_of hj, hBg.hc (by exact hbb)]
            exact hcs0 (i - 1) hj
          obtain ⟨v, hv⟩ : ∃ v, v = l[i] := ⟨_, rfl⟩
          rw [← hv] at r1 gi
          unfold voteC at r1
          simp (config := {maxSteps := 2000000, implicitDefEqProofs := false}) only [go_sem, ↓reduceIte, Nat.reduceEqDiff, Nat.reduceAdd, Nat.reduceMul, Nat.reduceLeDiff, Nat.reduceLT, Nat.reduceSub, IntWalk.iteOmega, IntWalk.toNatUp, reduceCtorEq, false_and, and_false, false_or, or_false, true_or, or_true, not_true_eq_false, not_false_eq_true, Bool.not_true, Bool.not_false, Bool.and_true, Bool.true_and, Bool.and_false, Bool.false_and, Bool.not_eq_true, beq_self_eq_true, Nat.add_zero, Int.reduceLE, Int.reduceLT, Int.reduceToNat, Int.reduceNeg, f1, f3, rv, hlt', r1]
          have hzg : h.size < g.size := by omega
          refine VS.w (g.size + 1) [] (.q 0 (.s 1 (.q 2 (.q 3 (.q 4 (.q 5 (.q 6 (.q 7 (.s 8 (.q 9 (.q 10 (.q 11 (.q 12 (.q 13 (.q 14 (.q 15 (.q 16 (.q 17 (.q 18 (.q 19 (.q 20 (.q 21 (.q 22 (.q 23 (.q 24 (.q 25 .nil)))))))))))))))))))))))))) mixed (by kernel_rfl) ?_
          have q0 : g.size < g.size + 1 := by omega
          simp (config := {maxSteps := 2000000, implicitDefEqProofs := false}) only [go_sem, ↓reduceIte, Nat.reduceEqDiff, Nat.reduceAdd, Nat.reduceMul, Nat.reduceLeDiff, Nat.reduceLT, Nat.reduceSub, IntWalk.iteOmega, IntWalk.toNatUp, reduceCtorEq, false_and, and_false, false_or, or_false, true_or, or_true, not_true_eq_false, not_false_eq_true, Bool.not_true, Bool.not_false, Bool.and_true, Bool.true_and, Bool.and_false, Bool.false_and, Bool.not_eq_true, beq_self_eq_true, Nat.add_zero, Int.reduceLE, Int.reduceLT, Int.reduceToNat, Int.reduceNeg, q0]
          refine (voteMay_ok T _ v).use ?_
          rintro _ g1 ⟨rfl, b1⟩
          have b1s := b1.size
          simp only [Array.size_push] at b1s
          have hgp : Bel g.size g g1 := (Bel.push (Nat.le_refl _) _).trans (b1.mono (by simp))
          have hB1 : Bel h.size h g1 := hBg.trans (hgp.mono (by omega))
          have hg1 : Bel H.size H g1 := hg.trans (hgp.mono (by omega))
          have b1' := b1
          rw [Array.size_push] at b1'
          have q1' : h.size < g.size + 1 := by omega
          have q2' : bb < g.size + 1 := by omega
          by_cases c1 : voteMay v
          · simp (config := {maxSteps := 2000000, implicitDefEqProofs := false}) only [go_sem, ↓reduceIte, Nat.reduceEqDiff, Nat.reduceAdd, Nat.reduceMul, Nat.reduceLeDiff, Nat.reduceLT, Nat.reduceSub, IntWalk.iteOmega, IntWalk.toNatUp, reduceCtorEq, false_and, and_false, false_or, or_false, true_or, or_true, not_true_eq_false, not_false_eq_true, Bool.not_true, Bool.not_false, Bool.and_true, Bool.true_and, Bool.and_false, Bool.false_and, Bool.not_eq_true, beq_self_eq_true, Nat.add_zero, Int.reduceLE, Int.reduceLT, Int.reduceToNat, Int.reduceNeg, c1, f1, rp, q0, q1']
            refine ⟨b1', ?_⟩
            refine (ballotBelow_ok T _ p v.b).use ?_
            rintro _ g2 ⟨rfl, b2⟩
            have hB2 : Bel h.size h g2 := hB1.trans (b2.mono (by have := hB1.size; omega))
            have hg2 : Bel H.size H g2 := hg1.trans (b2.mono (by have := hg1.size; omega))
            have b2' := b1'.trans (b2.mono (by omega))
            by_cases c2 : below p v.b
            · have e := accErr_bad (p := p) hlt (by cases hv' : good p l i with | false => rfl | true => exact absurd c2 (gi.1 hv').2.1)
              simp (config := {maxSteps := 2000000, implicitDefEqProofs := false}) only [go_sem, ↓reduceIte, Nat.reduceEqDiff, Nat.reduceAdd, Nat.reduceMul, Nat.reduceLeDiff, Nat.reduceLT, Nat.reduceSub, IntWalk.iteOmega, IntWalk.toNatUp, reduceCtorEq, false_and, and_false, false_or, or_false, true_or, or_true, not_true_eq_false, not_false_eq_true, Bool.not_true, Bool.not_false, Bool.and_true, Bool.true_and, Bool.and_false, Bool.false_and, Bool.not_eq_true, beq_self_eq_true, Nat.add_zero, Int.reduceLE, Int.reduceLT, Int.reduceToNat, Int.reduceNeg, c2, e]
              exact ⟨b2', hB2⟩
            · by_cases c3 : i = 0
              · subst c3
                have i0 : ¬ 0 < ((0 : Nat) : Int) := by decide
                simp (config := {maxSteps := 2000000, implicitDefEqProofs := false}) only [go_sem, ↓reduceIte, Nat.reduceEqDiff, Nat.reduceAdd, Nat.reduceMul, Nat.reduceLeDiff, Nat.reduceLT, Nat.reduceSub, IntWalk.iteOmega, IntWalk.toNatUp, reduceCtorEq, false_and, and_false, false_or, or_false, true_or, or_true, not_true_eq_false, not_false_eq_true, Bool.not_true, Bool.not_false, Bool.and_true, Bool.true_and, Bool.and_false, Bool.false_and, Bool.not_eq_true, beq_self_eq_true, Nat.add_zero, Int.reduceLE, Int.reduceLT, Int.reduceToNat, Int.reduceNeg, c2, f1, f3, i0]
                refine ⟨b2', ⟨hg2, f1, 1, by omega, rfl, fun j hj => ?_⟩, ?_⟩
                · obtain rfl : j = 0 := by omega
                  exact gi.2 ⟨c1, c2, .inl rfl⟩
                · simp only [vi, updo_some, ↓reduceIte, f3]; omega
              · have i0 : 0 < (i : Int) := by omega
                have rl := hlast c3
                have i1 : ((i : Int) - 1).toNat = i - 1 := by omega
                have i2 : 0 ≤ (i : Int) - 1 := by omega
                have i3 : (i : Int) - 1 < l.length := by omega
                have rv' := rv
                by_cases c4 : v.slot ≤ slotAt l (i - 1)
                · have e := accErr_bad (p := p) hlt (by cases hv' : good p l i with | false => rfl | true => exact absurd ((gi.1 hv').2.2.resolve_left c3) (by omega))
                  simp (config := {maxSteps := 2000000, implicitDefEqProofs := false}) only [go_sem, ↓reduceIte, Nat.reduceEqDiff, Nat.reduceAdd, Nat.reduceMul, Nat.reduceLeDiff, Nat.reduceLT, Nat.reduceSub, IntWalk.iteOmega, IntWalk.toNatUp, reduceCtorEq, false_and, and_false, false_or, or_false, true_or, or_true, not_true_eq_false, not_false_eq_true, Bool.not_true, Bool.not_false, Bool.and_true, Bool.true_and, Bool.and_false, Bool.false_and, Bool.not_eq_true, beq_self_eq_true, Nat.add_zero, Int.reduceLE, Int.reduceLT, Int.reduceToNat, Int.reduceNeg, c2, f1, f3, i0, i1, rl, rv, q0, q1', q2', c4, e]
                  exact ⟨b2', hB2⟩
                · simp (config := {maxSteps := 2000000, implicitDefEqProofs := false}) only [go_sem, ↓reduceIte, Nat.reduceEqDiff, Nat.reduceAdd, Nat.reduceMul, Nat.reduceLeDiff, Nat.reduceLT, Nat.reduceSub, IntWalk.iteOmega, IntWalk.toNatUp, reduceCtorEq, false_and, and_false, false_or, or_false, true_or, or_true, not_true_eq_false, not_false_eq_true, Bool.not_true, Bool.not_false, Bool.and_true, Bool.true_and, Bool.and_false, Bool.false_and, Bool.not_eq_true, beq_self_eq_true, Nat.add_zero, Int.reduceLE, Int.reduceLT, Int.reduceToNat, Int.reduceNeg, c2, f1, f3, i0, i1, rl, rv, q0, q1', q2', c4]
                  refine ⟨b2', ⟨hg2, f1, i + 1, by omega, rfl, fun j hj => ?_⟩, ?_⟩
                  · by_cases hji : j = i
                    · subst hji; exact gi.2 ⟨c1, c2, .inr (by omega)⟩
                    · exact hall j (by omega)
                  · simp only [vi, updo_some, ↓reduceIte, f3]; omega
          · have e := accErr_bad (p := p) hlt (by cases hv' : good p l i with | false => rfl | true => exact absurd (gi.1 hv').1 c1)
            simp (config := {maxSteps := 2000000, implicitDefEqProofs := false}) only [go_sem, ↓reduceIte, Nat.reduceEqDiff, Nat.reduceAdd, Nat.reduceMul, Nat.reduceLeDiff, Nat.reduceLT, Nat.reduceSub, IntWalk.iteOmega, IntWalk.toNatUp, reduceCtorEq, false_and, and_false, false_or, or_false, true_or, or_true, not_true_eq_false, not_false_eq_true, Bool.not_true, Bool.not_false, Bool.and_true, Bool.true_and, Bool.and_false, Bool.false_and, Bool.not_eq_true, beq_self_eq_true, Nat.add_zero, Int.reduceLE, Int.reduceLT, Int.reduceToNat, Int.reduceNeg, c1, e]
            exact ⟨b1', b1', hB1⟩
        · have hge : ¬ (i : Int) < l.length := by omega
          obtain rfl : i = l.length := by omega
          have e := accErr_good hnot hall
          simp (config := {maxSteps := 2000000, implicitDefEqProofs := false}) only [go_sem, ↓reduceIte, Nat.reduceEqDiff, Nat.reduceAdd, Nat.reduceMul, Nat.reduceLeDiff, Nat.reduceLT, Nat.reduceSub, IntWalk.iteOmega, IntWalk.toNatUp, reduceCtorEq, false_and, and_false, false_or, or_false, true_or, or_true, not_true_eq_false, not_false_eq_true, Bool.not_true, Bool.not_false, Bool.and_true, Bool.true_and, Bool.and_false, Bool.false_and, Bool.not_eq_true, beq_self_eq_true, Nat.add_zero, Int.reduceLE, Int.reduceLT, Int.reduceToNat, Int.reduceNeg, f1, f3, rv, hge, e, hBg]
      · have e : accErr p l = 5 := by unfold accErr; rw [if_pos ⟨q, fun h => z2 h.2⟩]
        rw [z1] at p0
        simp (config := {maxSteps := 2000000, implicitDefEqProofs := false}) only [go_sem, ↓reduceIte, Nat.reduceEqDiff, Nat.reduceAdd, Nat.reduceMul, Nat.reduceLeDiff, Nat.reduceLT, Nat.reduceSub, IntWalk.iteOmega, IntWalk.toNatUp, reduceCtorEq, false_and, and_false, false_or, or_false, true_or, or_true, not_true_eq_false, not_false_eq_true, Bool.not_true, Bool.not_false, Bool.and_true, Bool.true_and, Bool.and_false, Bool.false_and, Bool.not_eq_true, beq_self_eq_true, Nat.add_zero, Int.reduceLE, Int.reduceLT, Int.reduceToNat, Int.reduceNeg, q, p0, p1, z2, e, hHb]
    · have e : accErr p l = 5 := by unfold accErr; rw [if_pos ⟨q, fun h => z1 h.1⟩]
      simp (config := {maxSteps := 2000000, implicitDefEqProofs := false}) only [go_sem, ↓reduceIte, Nat.reduceEqDiff, Nat.reduceAdd, Nat.reduceMul, Nat.reduceLeDiff, Nat.reduceLT, Nat.reduceSub, IntWalk.iteOmega, IntWalk.toNatUp, reduceCtorEq, false_and, and_false, false_or, or_false, true_or, or_true, not_true_eq_false, not_false_eq_true, Bool.not_true, Bool.not_false, Bool.and_true, Bool.true_and, Bool.and_false, Bool.false_and, Bool.not_eq_true, beq_self_eq_true, Nat.add_zero, Int.reduceLE, Int.reduceLT, Int.reduceToNat, Int.reduceNeg, q, p0, z1, e, hHb]
theorem votesLaw_ok (T : World) (h : Hp) (u : Value) (l : List Vt) (s : Ts voteC 8 h u l) (hl : l.length ≤ 2199023255552) :
    CallsH Try.prog T 25 #[u] h fun v' h' => Ots h.size 43 voteC 8 h' v' l ∧ Bel h.size h h' := by
  refine CallsH.of_code' (args := [_]) Try.func25 rfl rfl rfl rfl ?_
  simp (config := {maxSteps := 2000000, implicitDefEqProofs := false}) only [go_sem, ↓reduceIte, Nat.reduceEqDiff, Nat.reduceAdd, Nat.reduceMul, Nat.reduceLeDiff, Nat.reduceLT, Nat.reduceSub, IntWalk.iteOmega, IntWalk.toNatUp, reduceCtorEq, false_and, and_false, false_or, or_false, true_or, or_true, not_true_eq_false, not_false_eq_true, Bool.not_true, Bool.not_false, Bool.and_true, Bool.true_and, Bool.and_false, Bool.false_and, Bool.not_eq_true, beq_self_eq_true, Nat.add_zero, Int.reduceLE, Int.reduceLT, Int.reduceToNat, Int.reduceNeg]
  refine append_ts (E := 43) (B := h.size) (n := 8) (bytes := 64) tsl39 Try.underlying39 tn43 tz43 rfl tb43 (fun _ => rfl) (Ots.nil _ _ voteC 8 _) (Nat.le_refl _) s (by simp; omega) (by omega) ?_
  intro v' h' ho hb _
  simp (config := {maxSteps := 2000000, implicitDefEqProofs := false}) only [go_sem, ↓reduceIte, Nat.reduceEqDiff, Nat.reduceAdd, Nat.reduceMul, Nat.reduceLeDiff, Nat.reduceLT, Nat.reduceSub, IntWalk.iteOmega, IntWalk.toNatUp, reduceCtorEq, false_and, and_false, false_or, or_false, true_or, or_true, not_true_eq_false, not_false_eq_true, Bool.not_true, Bool.not_false, Bool.and_true, Bool.true_and, Bool.and_false, Bool.false_and, Bool.not_eq_true, beq_self_eq_true, Nat.add_zero, Int.reduceLE, Int.reduceLT, Int.reduceToNat, Int.reduceNeg]
  exact ⟨by simpa using ho, hb⟩
theorem acceptors_ok (T : World) (h : Hp) (p : Bal) (u : Value) (l : List Vt) (s : Ts voteC 8 h u l) (hl : l.length ≤ 2199023255552) :
    CallsH Try.prog T 16 #[.agg (accC p u).toArray] h fun v' h' => (∃ w, v' = .agg (accC p w).toArray ∧ Ots h.size 43 voteC 8 h' w l) ∧ Bel h.size h h' := by
  obtain ⟨pv, cv, rfl, _⟩ := votes_open s
  refine CallsH.of_code' (args := [_]) Try.func16 rfl rfl rfl rfl ?_
  unfold accC
  simp (config := {maxSteps := 2000000, implicitDefEqProofs := false}) only [go_sem, ↓reduceIte, Nat.reduceEqDiff, Nat.reduceAdd, Nat.reduceMul, Nat.reduceLeDiff, Nat.reduceLT, Nat.reduceSub, IntWalk.iteOmega, IntWalk.toNatUp, reduceCtorEq, false_and, and_false, false_or, or_false, true_or, or_true, not_true_eq_false, not_false_eq_true, Bool.not_true, Bool.not_false, Bool.and_true, Bool.true_and, Bool.and_false, Bool.false_and, Bool.not_eq_true, beq_self_eq_true, Nat.add_zero, Int.reduceLE, Int.reduceLT, Int.reduceToNat, Int.reduceNeg]
  refine VS.w (h.size + 1) [6] (.q 0 (.q 1 (.q 2 (.q 3 (.s 4 (.q 5 (.w 6 .nil))))))) mixed (by kernel_rfl) ?_
  simp (config := {maxSteps := 2000000, implicitDefEqProofs := false}) only [go_sem, ↓reduceIte, Nat.reduceEqDiff, Nat.reduceAdd, Nat.reduceMul, Nat.reduceLeDiff, Nat.reduceLT, Nat.reduceSub, IntWalk.iteOmega, IntWalk.toNatUp, reduceCtorEq, false_and, and_false, false_or, or_false, true_or, or_true, not_true_eq_false, not_false_eq_true, Bool.not_true, Bool.not_false, Bool.and_true, Bool.true_and, Bool.and_false, Bool.false_and, Bool.not_eq_true, beq_self_eq_true, Nat.add_zero, Int.reduceLE, Int.reduceLT, Int.reduceToNat, Int.reduceNeg]
  refine (votesLaw_ok T _ _ l (s.bel ((Bel.refl h.size h).add _ |>.add _)) hl).use ?_
  rintro w g1 ⟨o1, b1⟩
  obtain ⟨pw, cw, rfl, _⟩ := o1.open
  have x1 : g1[h.size + 1]? = some (.cells [.int .i64 0, .int .i64 0, .slice none 0 0].toArray 41) := b1.get (by simp) (by simp only [Array.getElem?_push, Array.size_push, IntWalk.iteOmega, ↓reduceIte])
  have w1 := wr_get x1 0 [.int .i64 p.r, .int .i64 p.n, .slice pw l.length cw]
  rw [if_pos ⟨by simp, rfl⟩] at w1
  simp only [lput] at w1
  have z1 := lt_of_get x1
  simp (config := {maxSteps := 2000000, implicitDefEqProofs := false}) only [go_sem, ↓reduceIte, Nat.reduceEqDiff, Nat.reduceAdd, Nat.reduceMul, Nat.reduceLeDiff, Nat.reduceLT, Nat.reduceSub, IntWalk.iteOmega, IntWalk.toNatUp, reduceCtorEq, false_and, and_false, false_or, or_false, true_or, or_true, not_true_eq_false, not_false_eq_true, Bool.not_true, Bool.not_false, Bool.and_true, Bool.true_and, Bool.and_false, Bool.false_and, Bool.not_eq_true, beq_self_eq_true, Nat.add_zero, Int.reduceLE, Int.reduceLT, Int.reduceToNat, Int.reduceNeg, w1, z1]
  refine ⟨b1.mono (by simp), ⟨_, rfl, ?_⟩, ?_⟩
  · exact ((o1.mono (B' := h.size + 2) (by simp)).setLow (by omega) _).mono (by omega)
  · exact (((Bel.refl h.size h).add _ |>.add _).trans (b1.mono (by simp; omega))).addSet (by omega) _
theorem fit_votes {h : Hp} {k : Nat} {v : Value} (hf : fit Try.prog h k 39 [v]) : ∃ l : List Vt, Ts voteC 8 h v l ∧ l.length ≤ 2199023255552 := by
  obtain ⟨l, h1, _, h3⟩ := fit_slice (α := Vt) (enc := voteC) (n := 8) (ok := fun _ => True) Try.underlying39 (by kernel_rfl) (by decide) (fun _ => rfl) (fun k ds hfe => by
    obtain ⟨ds, rfl⟩ : ∃ ds', ds = ds' := ⟨_, rfl⟩
    have hlen : ds.length = 8 := by
      cases k with
      | zero => exact hfe.elim
      | succ k => unfold fit at hfe; rw [Try.underlying43] at hfe; exact hfe.1
    have hL := fit_leaf (P := Try.prog) (h := h) 8 k 43 ds (rep 8 [3]) (by kernel_rfl) hlen hfe
    obtain ⟨a0, _, rfl, _, _, hL⟩ := fitL_int Try.underlying3 hL
    obtain ⟨a1, _, rfl, _, _, hL⟩ := fitL_int Try.underlying3 hL
    obtain ⟨a2, _, rfl, _, _, hL⟩ := fitL_int Try.underlying3 hL
    obtain ⟨a3, _, rfl, _, _, hL⟩ := fitL_int Try.underlying3 hL
    obtain ⟨a4, _, rfl, _, _, hL⟩ := fitL_int Try.underlying3 hL
    obtain ⟨a5, _, rfl, _, _, hL⟩ := fitL_int Try.underlying3 hL
    obtain ⟨a6, _, rfl, _, _, hL⟩ := fitL_int Try.underlying3 hL
    obtain ⟨a7, _, rfl, _, _, hL⟩ := fitL_int Try.underlying3 hL
    obtain rfl := fitL_nil hL
    exact ⟨⟨a0, ⟨a1, a2⟩, a3, a4, a5, a6, a7⟩, trivial, rfl⟩) hf
  refine ⟨l, ⟨h1⟩, ?_⟩
  have : Try.prog.bytesOf 43 = 64 := by kernel_rfl
  rw [this] at h3
  omega
end Go.Proofs.Ytiakfdpmapmifaa
