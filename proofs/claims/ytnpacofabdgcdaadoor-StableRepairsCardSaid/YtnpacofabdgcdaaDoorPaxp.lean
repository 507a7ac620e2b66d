/- Ballots and votes: what the small functions compute; no condition but those in the statements. -/
import Derived.Test.YtnpacofabdgcdaaDoorOchk
import Derived.Test.YtnpacofabdgcdaaDoorW13
namespace Go.Proofs.YtnpacofabdgcdaaDoor
open Go Go.V
set_option linter.unusedSimpArgs false
set_option linter.unusedVariables false
set_option maxRecDepth 100000
structure Bal where
  r : Int
  n : Int
structure Vt where
  slot : Int
  b : Bal
  k : Int
  c : Int
  s : Int
  nm : Int
  v : Int
def balC (b : Bal) : List Value := [.int .i64 b.r, .int .i64 b.n]
def voteC (v : Vt) : List Value := [.int .i64 v.slot, .int .i64 v.b.r, .int .i64 v.b.n, .int .i64 v.k, .int .i64 v.c, .int .i64 v.s, .int .i64 v.nm, .int .i64 v.v]
def ballotMay (b : Bal) : Prop := (1 ≤ b.r ∧ b.r ≤ 65536) ∧ (0 ≤ b.n ∧ b.n ≤ 4)
instance (b : Bal) : Decidable (ballotMay b) := by unfold ballotMay; infer_instance
def voteMay (v : Vt) : Prop := (0 ≤ v.slot ∧ v.slot ≤ 39) ∧ ballotMay v.b ∧ cmdErr v.k v.c v.s v.nm v.v = 0
instance (v : Vt) : Decidable (voteMay v) := by unfold voteMay; infer_instance
def below (a b : Bal) : Prop := a.r < b.r ∨ (a.r = b.r ∧ a.n < b.n)
instance (a b : Bal) : Decidable (below a b) := by unfold below; infer_instance
def icmp (a b : Int) : Int := if a < b then -1 else if b < a then 1 else 0
def bcmp (a b : Bal) : Int := if icmp a.r b.r = 0 then icmp a.n b.n else icmp a.r b.r
theorem bcmp_pos (a b : Bal) : 0 < bcmp a b ↔ below b a := by
  unfold bcmp icmp below
  repeat' split
  all_goals omega
theorem bcmp_neg (a b : Bal) : bcmp a b < 0 ↔ below a b := by
  unfold bcmp icmp below
  repeat' split
  all_goals omega
theorem isNaN_ok (T : World) (h : Hp) (a : Int) : CallsH Tryd.prog T 175 #[.int .i64 a] h fun v' h' => v' = .bool false ∧ h' = h := by
  refine CallsH.of_code' (args := [_]) Tryd.func175 rfl rfl rfl rfl ?_
  simp (config := {maxSteps := 2000000, implicitDefEqProofs := false}) only [go_sem, ↓reduceIte, Nat.reduceEqDiff, Nat.reduceAdd, Nat.reduceMul, Nat.reduceLeDiff, Nat.reduceLT, Nat.reduceSub, IntWalk.iteOmega, IntWalk.toNatUp, reduceCtorEq, false_and, and_false, false_or, or_false, true_or, or_true, not_true_eq_false, not_false_eq_true, Bool.not_true, Bool.not_false, Bool.and_true, Bool.true_and, Bool.and_false, Bool.false_and, Bool.not_eq_true, beq_self_eq_true, Nat.add_zero, Int.reduceLE, Int.reduceLT, Int.reduceToNat, Int.reduceNeg]
theorem cmpCompare_ok (T : World) (h : Hp) (a b : Int) : CallsH Tryd.prog T 140 #[.int .i64 a, .int .i64 b] h fun v' h' => v' = .int .i64 (icmp a b) ∧ h' = h := by
  refine CallsH.of_code' (args := [_, _]) Tryd.func140 rfl rfl rfl rfl ?_
  simp (config := {maxSteps := 2000000, implicitDefEqProofs := false}) only [go_sem, ↓reduceIte, Nat.reduceEqDiff, Nat.reduceAdd, Nat.reduceMul, Nat.reduceLeDiff, Nat.reduceLT, Nat.reduceSub, IntWalk.iteOmega, IntWalk.toNatUp, reduceCtorEq, false_and, and_false, false_or, or_false, true_or, or_true, not_true_eq_false, not_false_eq_true, Bool.not_true, Bool.not_false, Bool.and_true, Bool.true_and, Bool.and_false, Bool.false_and, Bool.not_eq_true, beq_self_eq_true, Nat.add_zero, Int.reduceLE, Int.reduceLT, Int.reduceToNat, Int.reduceNeg]
  refine (isNaN_ok T _ _).pure ?_
  simp (config := {maxSteps := 2000000, implicitDefEqProofs := false}) only [go_sem, ↓reduceIte, Nat.reduceEqDiff, Nat.reduceAdd, Nat.reduceMul, Nat.reduceLeDiff, Nat.reduceLT, Nat.reduceSub, IntWalk.iteOmega, IntWalk.toNatUp, reduceCtorEq, false_and, and_false, false_or, or_false, true_or, or_true, not_true_eq_false, not_false_eq_true, Bool.not_true, Bool.not_false, Bool.and_true, Bool.true_and, Bool.and_false, Bool.false_and, Bool.not_eq_true, beq_self_eq_true, Nat.add_zero, Int.reduceLE, Int.reduceLT, Int.reduceToNat, Int.reduceNeg]
  refine (isNaN_ok T _ _).pure ?_
  unfold icmp
  by_cases q1 : a < b
  · simp (config := {maxSteps := 2000000, implicitDefEqProofs := false}) only [go_sem, ↓reduceIte, Nat.reduceEqDiff, Nat.reduceAdd, Nat.reduceMul, Nat.reduceLeDiff, Nat.reduceLT, Nat.reduceSub, IntWalk.iteOmega, IntWalk.toNatUp, reduceCtorEq, false_and, and_false, false_or, or_false, true_or, or_true, not_true_eq_false, not_false_eq_true, Bool.not_true, Bool.not_false, Bool.and_true, Bool.true_and, Bool.and_false, Bool.false_and, Bool.not_eq_true, beq_self_eq_true, Nat.add_zero, Int.reduceLE, Int.reduceLT, Int.reduceToNat, Int.reduceNeg, q1]
  · by_cases q2 : b < a
    · simp (config := {maxSteps := 2000000, implicitDefEqProofs := false}) only [go_sem, ↓reduceIte, Nat.reduceEqDiff, Nat.reduceAdd, Nat.reduceMul, Nat.reduceLeDiff, Nat.reduceLT, Nat.reduceSub, IntWalk.iteOmega, IntWalk.toNatUp, reduceCtorEq, false_and, and_false, false_or, or_false, true_or, or_true, not_true_eq_false, not_false_eq_true, Bool.not_true, Bool.not_false, Bool.and_true, Bool.true_and, Bool.and_false, Bool.false_and, Bool.not_eq_true, beq_self_eq_true, Nat.add_zero, Int.reduceLE, Int.reduceLT, Int.reduceToNat, Int.reduceNeg, q1, q2]
    · simp (config := {maxSteps := 2000000, implicitDefEqProofs := false}) only [go_sem, ↓reduceIte, Nat.reduceEqDiff, Nat.reduceAdd, Nat.reduceMul, Nat.reduceLeDiff, Nat.reduceLT, Nat.reduceSub, IntWalk.iteOmega, IntWalk.toNatUp, reduceCtorEq, false_and, and_false, false_or, or_false, true_or, or_true, not_true_eq_false, not_false_eq_true, Bool.not_true, Bool.not_false, Bool.and_true, Bool.true_and, Bool.and_false, Bool.false_and, Bool.not_eq_true, beq_self_eq_true, Nat.add_zero, Int.reduceLE, Int.reduceLT, Int.reduceToNat, Int.reduceNeg, q1, q2]
theorem cmpOr_ok (T : World) (h : Hp) (b : Nat) (x y : Int) (h0 : hc h ⟨b, 0, none⟩ = some (.int .i64 x)) (h1 : hc h ⟨b, 1, none⟩ = some (.int .i64 y)) : CallsH Tryd.prog T 172 #[.slice (some ⟨b, 0, none⟩) 2 2] h fun v' h' => v' = .int .i64 (if x = 0 then y else x) ∧ h' = h := by
  refine CallsH.of_code' (args := [_]) Tryd.func172 rfl rfl rfl rfl ?_
  simp (config := {maxSteps := 2000000, implicitDefEqProofs := false}) only [go_sem, ↓reduceIte, Nat.reduceEqDiff, Nat.reduceAdd, Nat.reduceMul, Nat.reduceLeDiff, Nat.reduceLT, Nat.reduceSub, IntWalk.iteOmega, IntWalk.toNatUp, reduceCtorEq, false_and, and_false, false_or, or_false, true_or, or_true, not_true_eq_false, not_false_eq_true, Bool.not_true, Bool.not_false, Bool.and_true, Bool.true_and, Bool.and_false, Bool.false_and, Bool.not_eq_true, beq_self_eq_true, Nat.add_zero, Int.reduceLE, Int.reduceLT, Int.reduceToNat, Int.reduceNeg]
  refine VS.rounds 3 rfl ?_
  by_cases q1 : x = 0
  · by_cases q2 : y = 0
    · simp (config := {maxSteps := 2000000, implicitDefEqProofs := false}) only [go_sem, ↓reduceIte, Nat.reduceEqDiff, Nat.reduceAdd, Nat.reduceMul, Nat.reduceLeDiff, Nat.reduceLT, Nat.reduceSub, IntWalk.iteOmega, IntWalk.toNatUp, reduceCtorEq, false_and, and_false, false_or, or_false, true_or, or_true, not_true_eq_false, not_false_eq_true, Bool.not_true, Bool.not_false, Bool.and_true, Bool.true_and, Bool.and_false, Bool.false_and, Bool.not_eq_true, beq_self_eq_true, Nat.add_zero, Int.reduceLE, Int.reduceLT, Int.reduceToNat, Int.reduceNeg, h0, h1, q1, q2, Int.reduceAdd]
    · simp (config := {maxSteps := 2000000, implicitDefEqProofs := false}) only [go_sem, ↓reduceIte, Nat.reduceEqDiff, Nat.reduceAdd, Nat.reduceMul, Nat.reduceLeDiff, Nat.reduceLT, Nat.reduceSub, IntWalk.iteOmega, IntWalk.toNatUp, reduceCtorEq, false_and, and_false, false_or, or_false, true_or, or_true, not_true_eq_false, not_false_eq_true, Bool.not_true, Bool.not_false, Bool.and_true, Bool.true_and, Bool.and_false, Bool.false_and, Bool.not_eq_true, beq_self_eq_true, Nat.add_zero, Int.reduceLE, Int.reduceLT, Int.reduceToNat, Int.reduceNeg, h0, h1, q1, q2, Int.reduceAdd]
  · simp (config := {maxSteps := 2000000, implicitDefEqProofs := false}) only [go_sem, ↓reduceIte, Nat.reduceEqDiff, Nat.reduceAdd, Nat.reduceMul, Nat.reduceLeDiff, Nat.reduceLT, Nat.reduceSub, IntWalk.iteOmega, IntWalk.toNatUp, reduceCtorEq, false_and, and_false, false_or, or_false, true_or, or_true, not_true_eq_false, not_false_eq_true, Bool.not_true, Bool.not_false, Bool.and_true, Bool.true_and, Bool.and_false, Bool.false_and, Bool.not_eq_true, beq_self_eq_true, Nat.add_zero, Int.reduceLE, Int.reduceLT, Int.reduceToNat, Int.reduceNeg, h0, h1, q1]
theorem ballot_ok (T : World) (h : Hp) (b : Bal) : CallsH Tryd.prog T 127 #[.agg (balC b).toArray] h fun v' h' => v' = .bool (decide (ballotMay b)) ∧ h' = h.push (.cells (balC b).toArray 67) := by
  refine CallsH.of_code' (args := [_]) Tryd.func127 rfl rfl rfl rfl ?_
  unfold balC
  by_cases q1 : 1 ≤ b.r
  · by_cases q2 : b.r ≤ 65536
    · by_cases q3 : 0 ≤ b.n
      · by_cases q4 : b.n < 5
        · have e : ballotMay b := ⟨⟨q1, q2⟩, q3, by omega⟩
          simp (config := {maxSteps := 2000000, implicitDefEqProofs := false}) only [go_sem, ↓reduceIte, Nat.reduceEqDiff, Nat.reduceAdd, Nat.reduceMul, Nat.reduceLeDiff, Nat.reduceLT, Nat.reduceSub, IntWalk.iteOmega, IntWalk.toNatUp, reduceCtorEq, false_and, and_false, false_or, or_false, true_or, or_true, not_true_eq_false, not_false_eq_true, Bool.not_true, Bool.not_false, Bool.and_true, Bool.true_and, Bool.and_false, Bool.false_and, Bool.not_eq_true, beq_self_eq_true, Nat.add_zero, Int.reduceLE, Int.reduceLT, Int.reduceToNat, Int.reduceNeg, q1, q2, q3, q4, e]
        · have e : ¬ ballotMay b := by unfold ballotMay; omega
          simp (config := {maxSteps := 2000000, implicitDefEqProofs := false}) only [go_sem, ↓reduceIte, Nat.reduceEqDiff, Nat.reduceAdd, Nat.reduceMul, Nat.reduceLeDiff, Nat.reduceLT, Nat.reduceSub, IntWalk.iteOmega, IntWalk.toNatUp, reduceCtorEq, false_and, and_false, false_or, or_false, true_or, or_true, not_true_eq_false, not_false_eq_true, Bool.not_true, Bool.not_false, Bool.and_true, Bool.true_and, Bool.and_false, Bool.false_and, Bool.not_eq_true, beq_self_eq_true, Nat.add_zero, Int.reduceLE, Int.reduceLT, Int.reduceToNat, Int.reduceNeg, q1, q2, q3, q4, e]
      · have e : ¬ ballotMay b := by unfold ballotMay; omega
        simp (config := {maxSteps := 2000000, implicitDefEqProofs := false}) only [go_sem, ↓reduceIte, Nat.reduceEqDiff, Nat.reduceAdd, Nat.reduceMul, Nat.reduceLeDiff, Nat.reduceLT, Nat.reduceSub, IntWalk.iteOmega, IntWalk.toNatUp, reduceCtorEq, false_and, and_false, false_or, or_false, true_or, or_true, not_true_eq_false, not_false_eq_true, Bool.not_true, Bool.not_false, Bool.and_true, Bool.true_and, Bool.and_false, Bool.false_and, Bool.not_eq_true, beq_self_eq_true, Nat.add_zero, Int.reduceLE, Int.reduceLT, Int.reduceToNat, Int.reduceNeg, q1, q2, q3, e]
    · have e : ¬ ballotMay b := by unfold ballotMay; omega
      simp (config := {maxSteps := 2000000, implicitDefEqProofs := false}) only [go_sem, ↓reduceIte, Nat.reduceEqDiff, Nat.reduceAdd, Nat.reduceMul, Nat.reduceLeDiff, Nat.reduceLT, Nat.reduceSub, IntWalk.iteOmega, IntWalk.toNatUp, reduceCtorEq, false_and, and_false, false_or, or_false, true_or, or_true, not_true_eq_false, not_false_eq_true, Bool.not_true, Bool.not_false, Bool.and_true, Bool.true_and, Bool.and_false, Bool.false_and, Bool.not_eq_true, beq_self_eq_true, Nat.add_zero, Int.reduceLE, Int.reduceLT, Int.reduceToNat, Int.reduceNeg, q1, q2, e]
  · have e : ¬ ballotMay b := by unfold ballotMay; omega
    simp (config := {maxSteps := 2000000, implicitDefEqProofs := false}) only [go_sem, ↓reduceIte, Nat.reduceEqDiff, Nat.reduceAdd, Nat.reduceMul, Nat.reduceLeDiff, Nat.reduceLT, Nat.reduceSub, IntWalk.iteOmega, IntWalk.toNatUp, reduceCtorEq, false_and, and_false, false_or, or_false, true_or, or_true, not_true_eq_false, not_false_eq_true, Bool.not_true, Bool.not_false, Bool.and_true, Bool.true_and, Bool.and_false, Bool.false_and, Bool.not_eq_true, beq_self_eq_true, Nat.add_zero, Int.reduceLE, Int.reduceLT, Int.reduceToNat, Int.reduceNeg, q1, e]
theorem ballotMay_ok (T : World) (h : Hp) (b : Bal) : CallsH Tryd.prog T 93 #[.agg (balC b).toArray] h fun v' h' => v' = .bool (decide (ballotMay b)) ∧ h' = h.push (.cells (balC b).toArray 67) := by
  refine CallsH.of_code' (args := [_]) Tryd.func93 rfl rfl rfl rfl ?_
  unfold balC
  simp (config := {maxSteps := 2000000, implicitDefEqProofs := false}) only [go_sem, ↓reduceIte, Nat.reduceEqDiff, Nat.reduceAdd, Nat.reduceMul, Nat.reduceLeDiff, Nat.reduceLT, Nat.reduceSub, IntWalk.iteOmega, IntWalk.toNatUp, reduceCtorEq, false_and, and_false, false_or, or_false, true_or, or_true, not_true_eq_false, not_false_eq_true, Bool.not_true, Bool.not_false, Bool.and_true, Bool.true_and, Bool.and_false, Bool.false_and, Bool.not_eq_true, beq_self_eq_true, Nat.add_zero, Int.reduceLE, Int.reduceLT, Int.reduceToNat, Int.reduceNeg]
  refine (in_ok T _ _ _ _).pure ?_
  by_cases q1 : 1 ≤ b.r ∧ b.r ≤ 65536
  · simp (config := {maxSteps := 2000000, implicitDefEqProofs := false}) only [go_sem, ↓reduceIte, Nat.reduceEqDiff, Nat.reduceAdd, Nat.reduceMul, Nat.reduceLeDiff, Nat.reduceLT, Nat.reduceSub, IntWalk.iteOmega, IntWalk.toNatUp, reduceCtorEq, false_and, and_false, false_or, or_false, true_or, or_true, not_true_eq_false, not_false_eq_true, Bool.not_true, Bool.not_false, Bool.and_true, Bool.true_and, Bool.and_false, Bool.false_and, Bool.not_eq_true, beq_self_eq_true, Nat.add_zero, Int.reduceLE, Int.reduceLT, Int.reduceToNat, Int.reduceNeg, q1]
    refine (in_ok T _ _ _ _).pure ?_
    by_cases q2 : 0 ≤ b.n ∧ b.n ≤ 4
    · have e : ballotMay b := ⟨q1, q2⟩
      simp (config := {maxSteps := 2000000, implicitDefEqProofs := false}) only [go_sem, ↓reduceIte, Nat.reduceEqDiff, Nat.reduceAdd, Nat.reduceMul, Nat.reduceLeDiff, Nat.reduceLT, Nat.reduceSub, IntWalk.iteOmega, IntWalk.toNatUp, reduceCtorEq, false_and, and_false, false_or, or_false, true_or, or_true, not_true_eq_false, not_false_eq_true, Bool.not_true, Bool.not_false, Bool.and_true, Bool.true_and, Bool.and_false, Bool.false_and, Bool.not_eq_true, beq_self_eq_true, Nat.add_zero, Int.reduceLE, Int.reduceLT, Int.reduceToNat, Int.reduceNeg, q2, e]
    · have e : ¬ ballotMay b := fun h => q2 h.2
      simp (config := {maxSteps := 2000000, implicitDefEqProofs := false}) only [go_sem, ↓reduceIte, Nat.reduceEqDiff, Nat.reduceAdd, Nat.reduceMul, Nat.reduceLeDiff, Nat.reduceLT, Nat.reduceSub, IntWalk.iteOmega, IntWalk.toNatUp, reduceCtorEq, false_and, and_false, false_or, or_false, true_or, or_true, not_true_eq_false, not_false_eq_true, Bool.not_true, Bool.not_false, Bool.and_true, Bool.true_and, Bool.and_false, Bool.false_and, Bool.not_eq_true, beq_self_eq_true, Nat.add_zero, Int.reduceLE, Int.reduceLT, Int.reduceToNat, Int.reduceNeg, q2, e]
  · have e : ¬ ballotMay b := fun h => q1 h.1
    simp (config := {maxSteps := 2000000, implicitDefEqProofs := false}) only [go_sem, ↓reduceIte, Nat.reduceEqDiff, Nat.reduceAdd, Nat.reduceMul, Nat.reduceLeDiff, Nat.reduceLT, Nat.reduceSub, IntWalk.iteOmega, IntWalk.toNatUp, reduceCtorEq, false_and, and_false, false_or, or_false, true_or, or_true, not_true_eq_false, not_false_eq_true, Bool.not_true, Bool.not_false, Bool.and_true, Bool.true_and, Bool.and_false, Bool.false_and, Bool.not_eq_true, beq_self_eq_true, Nat.add_zero, Int.reduceLE, Int.reduceLT, Int.reduceToNat, Int.reduceNeg, q1, e]
theorem compare_ok (T : World) (h : Hp) (a b : Bal) : CallsH Tryd.prog T 128 #[.agg (balC a).toArray, .agg (balC b).toArray] h fun v' h' => v' = .int .i64 (bcmp a b) ∧ Bel h.size h h' := by
  refine CallsH.of_code' (args := [_, _]) Tryd.func128 rfl rfl rfl rfl ?_
  unfold balC
  simp (config := {maxSteps := 2000000, implicitDefEqProofs := false}) only [go_sem, ↓reduceIte, Nat.reduceEqDiff, Nat.reduceAdd, Nat.reduceMul, Nat.reduceLeDiff, Nat.reduceLT, Nat.reduceSub, IntWalk.iteOmega, IntWalk.toNatUp, reduceCtorEq, false_and, and_false, false_or, or_false, true_or, or_true, not_true_eq_false, not_false_eq_true, Bool.not_true, Bool.not_false, Bool.and_true, Bool.true_and, Bool.and_false, Bool.false_and, Bool.not_eq_true, beq_self_eq_true, Nat.add_zero, Int.reduceLE, Int.reduceLT, Int.reduceToNat, Int.reduceNeg]
  refine VS.w (h.size + 2) [] (.q 0 (.q 1 (.q 2 (.q 3 (.q 5 (.q 6 (.q 7 (.q 8 (.s 4 (.s 9 (.s 10 (.s 11 (.q 12 .nil))))))))))))) mixed (by kernel_rfl) ?_
  simp (config := {maxSteps := 2000000, implicitDefEqProofs := false}) only [go_sem, ↓reduceIte, Nat.reduceEqDiff, Nat.reduceAdd, Nat.reduceMul, Nat.reduceLeDiff, Nat.reduceLT, Nat.reduceSub, IntWalk.iteOmega, IntWalk.toNatUp, reduceCtorEq, false_and, and_false, false_or, or_false, true_or, or_true, not_true_eq_false, not_false_eq_true, Bool.not_true, Bool.not_false, Bool.and_true, Bool.true_and, Bool.and_false, Bool.false_and, Bool.not_eq_true, beq_self_eq_true, Nat.add_zero, Int.reduceLE, Int.reduceLT, Int.reduceToNat, Int.reduceNeg]
  refine (cmpCompare_ok T _ _ _).pure ?_
  simp (config := {maxSteps := 2000000, implicitDefEqProofs := false}) only [go_sem, ↓reduceIte, Nat.reduceEqDiff, Nat.reduceAdd, Nat.reduceMul, Nat.reduceLeDiff, Nat.reduceLT, Nat.reduceSub, IntWalk.iteOmega, IntWalk.toNatUp, reduceCtorEq, false_and, and_false, false_or, or_false, true_or, or_true, not_true_eq_false, not_false_eq_true, Bool.not_true, Bool.not_false, Bool.and_true, Bool.true_and, Bool.and_false, Bool.false_and, Bool.not_eq_true, beq_self_eq_true, Nat.add_zero, Int.reduceLE, Int.reduceLT, Int.reduceToNat, Int.reduceNeg]
  refine (cmpCompare_ok T _ _ _).pure ?_
  simp (config := {maxSteps := 2000000, implicitDefEqProofs := false}) only [go_sem, ↓reduceIte, Nat.reduceEqDiff, Nat.reduceAdd, Nat.reduceMul, Nat.reduceLeDiff, Nat.reduceLT, Nat.reduceSub, IntWalk.iteOmega, IntWalk.toNatUp, reduceCtorEq, false_and, and_false, false_or, or_false, true_or, or_true, not_true_eq_false, not_false_eq_true, Bool.not_true, Bool.not_false, Bool.and_true, Bool.true_and, Bool.and_false, Bool.false_and, Bool.not_eq_true, beq_self_eq_true, Nat.add_zero, Int.reduceLE, Int.reduceLT, Int.reduceToNat, Int.reduceNeg]
  refine ⟨(Bel.refl _ _).addP (by simp) _, ?_⟩
  refine (cmpOr_ok T _ _ (icmp a.r b.r) (icmp a.n b.n) ?_ ?_).pure ?_
  · simp (config := {maxSteps := 2000000, implicitDefEqProofs := false}) only [go_sem, ↓reduceIte, Nat.reduceEqDiff, Nat.reduceAdd, Nat.reduceMul, Nat.reduceLeDiff, Nat.reduceLT, Nat.reduceSub, IntWalk.iteOmega, IntWalk.toNatUp, reduceCtorEq, false_and, and_false, false_or, or_false, true_or, or_true, not_true_eq_false, not_false_eq_true, Bool.not_true, Bool.not_false, Bool.and_true, Bool.true_and, Bool.and_false, Bool.false_and, Bool.not_eq_true, beq_self_eq_true, Nat.add_zero, Int.reduceLE, Int.reduceLT, Int.reduceToNat, Int.reduceNeg]
  · simp (config := {maxSteps := 2000000, implicitDefEqProofs := false}) only [go_sem, ↓reduceIte, Nat.reduceEqDiff, Nat.reduceAdd, Nat.reduceMul, Nat.reduceLeDiff, Nat.reduceLT, Nat.reduceSub, IntWalk.iteOmega, IntWalk.toNatUp, reduceCtorEq, false_and, and_false, false_or, or_false, true_or, or_true, not_true_eq_false, not_false_eq_true, Bool.not_true, Bool.not_false, Bool.and_true, Bool.true_and, Bool.and_false, Bool.false_and, Bool.not_eq_true, beq_self_eq_true, Nat.add_zero, Int.reduceLE, Int.reduceLT, Int.reduceToNat, Int.reduceNeg]
  unfold bcmp
  simp (config := {maxSteps := 2000000, implicitDefEqProofs := false}) only [go_sem, ↓reduceIte, Nat.reduceEqDiff, Nat.reduceAdd, Nat.reduceMul, Nat.reduceLeDiff, Nat.reduceLT, Nat.reduceSub, IntWalk.iteOmega, IntWalk.toNatUp, reduceCtorEq, false_and, and_false, false_or, or_false, true_or, or_true, not_true_eq_false, not_false_eq_true, Bool.not_true, Bool.not_false, Bool.and_true, Bool.true_and, Bool.and_false, Bool.false_and, Bool.not_eq_true, beq_self_eq_true, Nat.add_zero, Int.reduceLE, Int.reduceLT, Int.reduceToNat, Int.reduceNeg]
  refine ⟨(Bel.refl _ _).addP (by simp) _, ?_⟩
  (repeat' (first | exact Bel.refl _ _ | assumption | refine Bel.add ?_ _ | refine Bel.addSet ?_ (by first | omega | (simp; omega)) _ | refine Bel.trans (by assumption) ?_))
theorem ballotBelow_ok (T : World) (h : Hp) (a b : Bal) : CallsH Tryd.prog T 179 #[.agg (balC a).toArray, .agg (balC b).toArray] h fun v' h' => v' = .bool (decide (below a b)) ∧ Bel h.size h h' := by
  refine CallsH.of_code' (args := [_, _]) Tryd.func179 rfl rfl rfl rfl ?_
  unfold balC
  by_cases q1 : a.r < b.r
  · have e : below a b := .inl q1
    simp (config := {maxSteps := 2000000, implicitDefEqProofs := false}) only [go_sem, ↓reduceIte, Nat.reduceEqDiff, Nat.reduceAdd, Nat.reduceMul, Nat.reduceLeDiff, Nat.reduceLT, Nat.reduceSub, IntWalk.iteOmega, IntWalk.toNatUp, reduceCtorEq, false_and, and_false, false_or, or_false, true_or, or_true, not_true_eq_false, not_false_eq_true, Bool.not_true, Bool.not_false, Bool.and_true, Bool.true_and, Bool.and_false, Bool.false_and, Bool.not_eq_true, beq_self_eq_true, Nat.add_zero, Int.reduceLE, Int.reduceLT, Int.reduceToNat, Int.reduceNeg, q1, e]
  · by_cases q2 : a.r = b.r
    · by_cases q3 : a.n < b.n
      · have e : below a b := .inr ⟨q2, q3⟩
        simp (config := {maxSteps := 2000000, implicitDefEqProofs := false}) only [go_sem, ↓reduceIte, Nat.reduceEqDiff, Nat.reduceAdd, Nat.reduceMul, Nat.reduceLeDiff, Nat.reduceLT, Nat.reduceSub, IntWalk.iteOmega, IntWalk.toNatUp, reduceCtorEq, false_and, and_false, false_or, or_false, true_or, or_true, not_true_eq_false, not_false_eq_true, Bool.not_true, Bool.not_false, Bool.and_true, Bool.true_and, Bool.and_false, Bool.false_and, Bool.not_eq_true, beq_self_eq_true, Nat.add_zero, Int.reduceLE, Int.reduceLT, Int.reduceToNat, Int.reduceNeg, q1, q2, q3, e, Int.lt_irrefl]
      · have e : ¬ below a b := by unfold below; omega
        simp (config := {maxSteps := 2000000, implicitDefEqProofs := false}) only [go_sem, ↓reduceIte, Nat.reduceEqDiff, Nat.reduceAdd, Nat.reduceMul, Nat.reduceLeDiff, Nat.reduceLT, Nat.reduceSub, IntWalk.iteOmega, IntWalk.toNatUp, reduceCtorEq, false_and, and_false, false_or, or_false, true_or, or_true, not_true_eq_false, not_false_eq_true, Bool.not_true, Bool.not_false, Bool.and_true, Bool.true_and, Bool.and_false, Bool.false_and, Bool.not_eq_true, beq_self_eq_true, Nat.add_zero, Int.reduceLE, Int.reduceLT, Int.reduceToNat, Int.reduceNeg, q1, q2, q3, e, Int.lt_irrefl]
    · have e : ¬ below a b := by unfold below; omega
      simp (config := {maxSteps := 2000000, implicitDefEqProofs := false}) only [go_sem, ↓reduceIte, Nat.reduceEqDiff, Nat.reduceAdd, Nat.reduceMul, Nat.reduceLeDiff, Nat.reduceLT, Nat.reduceSub, IntWalk.iteOmega, IntWalk.toNatUp, reduceCtorEq, false_and, and_false, false_or, or_false, true_or, or_true, not_true_eq_false, not_false_eq_true, Bool.not_true, Bool.not_false, Bool.and_true, Bool.true_and, Bool.and_false, Bool.false_and, Bool.not_eq_true, beq_self_eq_true, Nat.add_zero, Int.reduceLE, Int.reduceLT, Int.reduceToNat, Int.reduceNeg, q1, q2, e]
theorem vote_ok (T : World) (h : Hp) (v : Vt) : CallsH Tryd.prog T 137 #[.agg (voteC v).toArray] h fun v' h' => v' = .bool (decide (voteMay v)) ∧ Bel h.size h h' := by
  refine CallsH.of_code' (args := [_]) Tryd.func137 rfl rfl rfl rfl ?_
  unfold voteC
  by_cases q1 : 0 ≤ v.slot
  · by_cases q2 : v.slot < 40
    · simp (config := {maxSteps := 2000000, implicitDefEqProofs := false}) only [go_sem, ↓reduceIte, Nat.reduceEqDiff, Nat.reduceAdd, Nat.reduceMul, Nat.reduceLeDiff, Nat.reduceLT, Nat.reduceSub, IntWalk.iteOmega, IntWalk.toNatUp, reduceCtorEq, false_and, and_false, false_or, or_false, true_or, or_true, not_true_eq_false, not_false_eq_true, Bool.not_true, Bool.not_false, Bool.and_true, Bool.true_and, Bool.and_false, Bool.false_and, Bool.not_eq_true, beq_self_eq_true, Nat.add_zero, Int.reduceLE, Int.reduceLT, Int.reduceToNat, Int.reduceNeg, q1, q2]
      refine (ballot_ok T _ v.b).use ?_
      rintro _ _ ⟨rfl, rfl⟩
      unfold balC
      by_cases q3 : ballotMay v.b
      · simp (config := {maxSteps := 2000000, implicitDefEqProofs := false}) only [go_sem, ↓reduceIte, Nat.reduceEqDiff, Nat.reduceAdd, Nat.reduceMul, Nat.reduceLeDiff, Nat.reduceLT, Nat.reduceSub, IntWalk.iteOmega, IntWalk.toNatUp, reduceCtorEq, false_and, and_false, false_or, or_false, true_or, or_true, not_true_eq_false, not_false_eq_true, Bool.not_true, Bool.not_false, Bool.and_true, Bool.true_and, Bool.and_false, Bool.false_and, Bool.not_eq_true, beq_self_eq_true, Nat.add_zero, Int.reduceLE, Int.reduceLT, Int.reduceToNat, Int.reduceNeg, q3]
        refine (orderCheck_ok T _ v.k v.c v.s v.nm v.v).use ?_
        rintro _ _ ⟨rfl, rfl⟩
        by_cases q4 : cmdErr v.k v.c v.s v.nm v.v = 0
        · have e : voteMay v := ⟨⟨q1, by omega⟩, q3, q4⟩
          simp (config := {maxSteps := 2000000, implicitDefEqProofs := false}) only [go_sem, ↓reduceIte, Nat.reduceEqDiff, Nat.reduceAdd, Nat.reduceMul, Nat.reduceLeDiff, Nat.reduceLT, Nat.reduceSub, IntWalk.iteOmega, IntWalk.toNatUp, reduceCtorEq, false_and, and_false, false_or, or_false, true_or, or_true, not_true_eq_false, not_false_eq_true, Bool.not_true, Bool.not_false, Bool.and_true, Bool.true_and, Bool.and_false, Bool.false_and, Bool.not_eq_true, beq_self_eq_true, Nat.add_zero, Int.reduceLE, Int.reduceLT, Int.reduceToNat, Int.reduceNeg, q4, e]
          (repeat' (first | exact Bel.refl _ _ | assumption | refine Bel.add ?_ _ | refine Bel.addSet ?_ (by first | omega | (simp; omega)) _ | refine Bel.trans (by assumption) ?_))
        · have e : ¬ voteMay v := fun h => q4 h.2.2
          simp (config := {maxSteps := 2000000, implicitDefEqProofs := false}) only [go_sem, ↓reduceIte, Nat.reduceEqDiff, Nat.reduceAdd, Nat.reduceMul, Nat.reduceLeDiff, Nat.reduceLT, Nat.reduceSub, IntWalk.iteOmega, IntWalk.toNatUp, reduceCtorEq, false_and, and_false, false_or, or_false, true_or, or_true, not_true_eq_false, not_false_eq_true, Bool.not_true, Bool.not_false, Bool.and_true, Bool.true_and, Bool.and_false, Bool.false_and, Bool.not_eq_true, beq_self_eq_true, Nat.add_zero, Int.reduceLE, Int.reduceLT, Int.reduceToNat, Int.reduceNeg, q4, e]
          (repeat' (first | exact Bel.refl _ _ | assumption | refine Bel.add ?_ _ | refine Bel.addSet ?_ (by first | omega | (simp; omega)) _ | refine Bel.trans (by assumption) ?_))
      · have e : ¬ voteMay v := fun h => q3 h.2.1
        simp (config := {maxSteps := 2000000, implicitDefEqProofs := false}) only [go_sem, ↓reduceIte, Nat.reduceEqDiff, Nat.reduceAdd, Nat.reduceMul, Nat.reduceLeDiff, Nat.reduceLT, Nat.reduceSub, IntWalk.iteOmega, IntWalk.toNatUp, reduceCtorEq, false_and, and_false, false_or, or_false, true_or, or_true, not_true_eq_false, not_false_eq_true, Bool.not_true, Bool.not_false, Bool.and_true, Bool.true_and, Bool.and_false, Bool.false_and, Bool.not_eq_true, beq_self_eq_true, Nat.add_zero, Int.reduceLE, Int.reduceLT, Int.reduceToNat, Int.reduceNeg, q3, e]
    · have e : ¬ voteMay v := by unfold voteMay; omega
      simp (config := {maxSteps := 2000000, implicitDefEqProofs := false}) only [go_sem, ↓reduceIte, Nat.reduceEqDiff, Nat.reduceAdd, Nat.reduceMul, Nat.reduceLeDiff, Nat.reduceLT, Nat.reduceSub, IntWalk.iteOmega, IntWalk.toNatUp, reduceCtorEq, false_and, and_false, false_or, or_false, true_or, or_true, not_true_eq_false, not_false_eq_true, Bool.not_true, Bool.not_false, Bool.and_true, Bool.true_and, Bool.and_false, Bool.false_and, Bool.not_eq_true, beq_self_eq_true, Nat.add_zero, Int.reduceLE, Int.reduceLT, Int.reduceToNat, Int.reduceNeg, q1, q2, e]
  · have e : ¬ voteMay v := by unfold voteMay; omega
    simp (config := {maxSteps := 2000000, implicitDefEqProofs := false}) only [go_sem, ↓reduceIte, Nat.reduceEqDiff, Nat.reduceAdd, Nat.reduceMul, Nat.reduceLeDiff, Nat.reduceLT, Nat.reduceSub, IntWalk.iteOmega, IntWalk.toNatUp, reduceCtorEq, false_and, and_false, false_or, or_false, true_or, or_true, not_true_eq_false, not_false_eq_true, Bool.not_true, Bool.not_false, Bool.and_true, Bool.true_and, Bool.and_false, Bool.false_and, Bool.not_eq_true, beq_self_eq_true, Nat.add_zero, Int.reduceLE, Int.reduceLT, Int.reduceToNat, Int.reduceNeg, q1, e]
theorem voteMay_ok (T : World) (h : Hp) (v : Vt) : CallsH Tryd.prog T 104 #[.agg (voteC v).toArray] h fun v' h' => v' = .bool (decide (voteMay v)) ∧ Bel h.size h h' := by
  refine CallsH.of_code' (args := [_]) Tryd.func104 rfl rfl rfl rfl ?_
  unfold voteC
  simp (config := {maxSteps := 2000000, implicitDefEqProofs := false}) only [go_sem, ↓reduceIte, Nat.reduceEqDiff, Nat.reduceAdd, Nat.reduceMul, Nat.reduceLeDiff, Nat.reduceLT, Nat.reduceSub, IntWalk.iteOmega, IntWalk.toNatUp, reduceCtorEq, false_and, and_false, false_or, or_false, true_or, or_true, not_true_eq_false, not_false_eq_true, Bool.not_true, Bool.not_false, Bool.and_true, Bool.true_and, Bool.and_false, Bool.false_and, Bool.not_eq_true, beq_self_eq_true, Nat.add_zero, Int.reduceLE, Int.reduceLT, Int.reduceToNat, Int.reduceNeg]
  refine (in_ok T _ _ _ _).pure ?_
  by_cases q1 : 0 ≤ v.slot ∧ v.slot ≤ 39
  · simp (config := {maxSteps := 2000000, implicitDefEqProofs := false}) only [go_sem, ↓reduceIte, Nat.reduceEqDiff, Nat.reduceAdd, Nat.reduceMul, Nat.reduceLeDiff, Nat.reduceLT, Nat.reduceSub, IntWalk.iteOmega, IntWalk.toNatUp, reduceCtorEq, false_and, and_false, false_or, or_false, true_or, or_true, not_true_eq_false, not_false_eq_true, Bool.not_true, Bool.not_false, Bool.and_true, Bool.true_and, Bool.and_false, Bool.false_and, Bool.not_eq_true, beq_self_eq_true, Nat.add_zero, Int.reduceLE, Int.reduceLT, Int.reduceToNat, Int.reduceNeg, q1]
    refine (ballotMay_ok T _ v.b).use ?_
    rintro _ _ ⟨rfl, rfl⟩
    unfold balC
    by_cases q3 : ballotMay v.b
    · simp (config := {maxSteps := 2000000, implicitDefEqProofs := false}) only [go_sem, ↓reduceIte, Nat.reduceEqDiff, Nat.reduceAdd, Nat.reduceMul, Nat.reduceLeDiff, Nat.reduceLT, Nat.reduceSub, IntWalk.iteOmega, IntWalk.toNatUp, reduceCtorEq, false_and, and_false, false_or, or_false, true_or, or_true, not_true_eq_false, not_false_eq_true, Bool.not_true, Bool.not_false, Bool.and_true, Bool.true_and, Bool.and_false, Bool.false_and, Bool.not_eq_true, beq_self_eq_true, Nat.add_zero, Int.reduceLE, Int.reduceLT, Int.reduceToNat, Int.reduceNeg, q3]
      refine (commandFault_ok T _ v.k v.c v.s v.nm v.v).use ?_
      rintro _ _ ⟨rfl, rfl⟩
      by_cases q4 : cmdErr v.k v.c v.s v.nm v.v = 0
      · have e : voteMay v := ⟨q1, q3, q4⟩
        simp (config := {maxSteps := 2000000, implicitDefEqProofs := false}) only [go_sem, ↓reduceIte, Nat.reduceEqDiff, Nat.reduceAdd, Nat.reduceMul, Nat.reduceLeDiff, Nat.reduceLT, Nat.reduceSub, IntWalk.iteOmega, IntWalk.toNatUp, reduceCtorEq, false_and, and_false, false_or, or_false, true_or, or_true, not_true_eq_false, not_false_eq_true, Bool.not_true, Bool.not_false, Bool.and_true, Bool.true_and, Bool.and_false, Bool.false_and, Bool.not_eq_true, beq_self_eq_true, Nat.add_zero, Int.reduceLE, Int.reduceLT, Int.reduceToNat, Int.reduceNeg, q4, e]
        (repeat' (first | exact Bel.refl _ _ | assumption | refine Bel.add ?_ _ | refine Bel.addSet ?_ (by first | omega | (simp; omega)) _ | refine Bel.trans (by assumption) ?_))
      · have e : ¬ voteMay v := fun h => q4 h.2.2
        simp (config := {maxSteps := 2000000, implicitDefEqProofs := false}) only [go_sem, ↓reduceIte, Nat.reduceEqDiff, Nat.reduceAdd, Nat.reduceMul, Nat.reduceLeDiff, Nat.reduceLT, Nat.reduceSub, IntWalk.iteOmega, IntWalk.toNatUp, reduceCtorEq, false_and, and_false, false_or, or_false, true_or, or_true, not_true_eq_false, not_false_eq_true, Bool.not_true, Bool.not_false, Bool.and_true, Bool.true_and, Bool.and_false, Bool.false_and, Bool.not_eq_true, beq_self_eq_true, Nat.add_zero, Int.reduceLE, Int.reduceLT, Int.reduceToNat, Int.reduceNeg, q4, e]
        (repeat' (first | exact Bel.refl _ _ | assumption | refine Bel.add ?_ _ | refine Bel.addSet ?_ (by first | omega | (simp; omega)) _ | refine Bel.trans (by assumption) ?_))
    · have e : ¬ voteMay v := fun h => q3 h.2.1
      simp (config := {maxSteps := 2000000, implicitDefEqProofs := false}) only [go_sem, ↓reduceIte, Nat.reduceEqDiff, Nat.reduceAdd, Nat.reduceMul, Nat.reduceLeDiff, Nat.reduceLT, Nat.reduceSub, IntWalk.iteOmega, IntWalk.toNatUp, reduceCtorEq, false_and, and_false, false_or, or_false, true_or, or_true, not_true_eq_false, not_false_eq_true, Bool.not_true, Bool.not_false, Bool.and_true, Bool.true_and, Bool.and_false, Bool.false_and, Bool.not_eq_true, beq_self_eq_true, Nat.add_zero, Int.reduceLE, Int.reduceLT, Int.reduceToNat, Int.reduceNeg, q3, e]
  · have e : ¬ voteMay v := fun h => q1 h.1
    simp (config := {maxSteps := 2000000, implicitDefEqProofs := false}) only [go_sem, ↓reduceIte, Nat.reduceEqDiff, Nat.reduceAdd, Nat.reduceMul, Nat.reduceLeDiff, Nat.reduceLT, Nat.reduceSub, IntWalk.iteOmega, IntWalk.toNatUp, reduceCtorEq, false_and, and_false, false_or, or_false, true_or, or_true, not_true_eq_false, not_false_eq_true, Bool.not_true, Bool.not_false, Bool.and_true, Bool.true_and, Bool.and_false, Bool.false_and, Bool.not_eq_true, beq_self_eq_true, Nat.add_zero, Int.reduceLE, Int.reduceLT, Int.reduceToNat, Int.reduceNeg, q1, e]
/-! lists of votes -/
theorem votes_open {h : Hp} {v : Value} {l : List Vt} (s : Ts voteC 8 h v l) : ∃ p cap, v = .slice p l.length cap ∧ (l ≠ [] → ∃ b o, p = some ⟨b, o, none⟩ ∧ b < h.size ∧ (∀ i (hi : i < l.length), hc h ⟨b, o + i * 8, none⟩ = some (.int .i64 l[i].slot)) ∧ ∀ i (hi : i < l.length), rd h ⟨b, o + i * 8, none⟩ 8 = some (voteC l[i])) := by
  obtain ⟨p, cap, hv, hc1⟩ := Ts.open (enc := voteC) (n := 8) (fun _ => rfl) (by decide) s
  refine ⟨p, cap, hv, fun hne => ?_⟩
  obtain ⟨b, o, hp, hb, hcs⟩ := hc1 hne
  exact ⟨b, o, hp, hb, fun i hi => (hcs i hi).hc (i := 0) rfl, fun i hi => (hcs i hi).rd (by simp [voteC]) rfl⟩
def slotAt (l : List Vt) (j : Nat) : Int := ((l[j]?).map (·.slot)).getD (-1)
def lastOf (l : List Vt) (i : Nat) : Int := if i = 0 then -1 else slotAt l (i - 1)
def good (p : Bal) (l : List Vt) (i : Nat) : Bool := match l[i]? with
  | some v => decide (voteMay v ∧ ¬ below p v.b ∧ (i = 0 ∨ slotAt l (i - 1) < v.slot))
  | none => true
def accErr (p : Bal) (l : List Vt) : Int := if ¬ ballotMay p ∧ ¬ (p.r = 0 ∧ p.n = 0) then 5 else if (List.range l.length).all (good p l) = true then 0 else 5
theorem slotAt_of {l : List Vt} {j : Nat} (hj : j < l.length) : slotAt l j = l[j].slot := by
  unfold slotAt; rw [List.getElem?_eq_getElem hj]; rfl
theorem good_iff {p : Bal} {l : List Vt} {i : Nat} (hi : i < l.length) : good p l i = true ↔ voteMay l[i] ∧ ¬ below p l[i].b ∧ (i = 0 ∨ slotAt l (i - 1) < l[i].slot) := by
  unfold good
  rw [List.getElem?_eq_getElem hi]
  simp only [decide_eq_true_eq]
theorem good_last {p : Bal} {l : List Vt} {i : Nat} (hi : i < l.length) : good p l i = true ↔ voteMay l[i] ∧ ¬ below p l[i].b ∧ lastOf l i < l[i].slot := by
  rw [good_iff hi]
  unfold lastOf
  by_cases h0 : i = 0
  · rw [if_pos h0]
    constructor
    · rintro ⟨h1, h2, _⟩; exact ⟨h1, h2, by have := h1.1.1; omega⟩
    · rintro ⟨h1, h2, _⟩; exact ⟨h1, h2, .inl h0⟩
  · rw [if_neg h0]
    constructor
    · rintro ⟨h1, h2, h3⟩; exact ⟨h1, h2, h3.resolve_left h0⟩
    · rintro ⟨h1, h2, h3⟩; exact ⟨h1, h2, .inr h3⟩
theorem accErr_good {p : Bal} {l : List Vt} (hp : ¬ (¬ ballotMay p ∧ ¬ (p.r = 0 ∧ p.n = 0))) (hg : ∀ j, j < l.length → good p l j = true) : accErr p l = 0 := by
  unfold accErr
  rw [if_neg hp, if_pos (List.all_eq_true.2 fun i hi => hg i (List.mem_range.1 hi))]
theorem accErr_bad {p : Bal} {l : List Vt} {i : Nat} (hi : i < l.length) (hb : good p l i = false) : accErr p l = 5 := by
  unfold accErr
  split
  · rfl
  · rw [if_neg]
    intro h
    have := List.all_eq_true.1 h i (List.mem_range.2 hi)
    rw [hb] at this; cases this
def accC (p : Bal) (v : Value) : List Value := [.int .i64 p.r, .int .i64 p.n, v]
theorem paxosCheck_ok (T : World) (h : Hp) (p : Bal) (u : Value) (l : List Vt) (s : Ts voteC 8 h u l) (hlen : l.length ≤ 4611686018427387904) :
    CallsH Tryd.prog T 126 #[.agg (accC p u).toArray] h fun v' h' => v' = .int .i64 (accErr p l) ∧ Bel h.size h h' := by
  obtain ⟨pv, cv, rfl, hcs⟩ := votes_open s
  refine CallsH.of_code' (args := [_]) Tryd.func126 rfl rfl rfl rfl ?_
  unfold accC
  by_cases z : p.r = 0 ∧ p.n = 0
  · obtain ⟨z1, z2⟩ := z
    have hnot : ¬ (¬ ballotMay p ∧ ¬ (p.r = 0 ∧ p.n = 0)) := fun h => h.2 ⟨z1, z2⟩
    simp (config := {maxSteps := 2000000, implicitDefEqProofs := false}) only [go_sem, ↓reduceIte, Nat.reduceEqDiff, Nat.reduceAdd, Nat.reduceMul, Nat.reduceLeDiff, Nat.reduceLT, Nat.reduceSub, IntWalk.iteOmega, IntWalk.toNatUp, reduceCtorEq, false_and, and_false, false_or, or_false, true_or, or_true, not_true_eq_false, not_false_eq_true, Bool.not_true, Bool.not_false, Bool.and_true, Bool.true_and, Bool.and_false, Bool.false_and, Bool.not_eq_true, beq_self_eq_true, Nat.add_zero, Int.reduceLE, Int.reduceLT, Int.reduceToNat, Int.reduceNeg, z1, z2]
    obtain ⟨H, hH⟩ : ∃ H : Hp, H = h.push (.cells [.int .i64 0, .int .i64 0, .slice pv l.length cv].toArray 85) := ⟨_, rfl⟩
    have x0 : H[h.size]? = some (.cells (accC p (.slice pv l.length cv)).toArray 85) := by rw [hH]; unfold accC; rw [z1, z2]; exact get_push_last
    have hHb : Bel h.size h H := by rw [hH]; (repeat' (first | exact Bel.refl _ _ | assumption | refine Bel.add ?_ _ | refine Bel.addSet ?_ (by first | omega | (simp; omega)) _ | refine Bel.trans (by assumption) ?_))
    rw [← hH]
    clear hH
    have hz := lt_of_get x0
    refine VS.loop' (fun F g => Bel H.size H g ∧ F 1 = .pointer (some ⟨h.size, 0, none⟩) ∧ F 17 = .slice pv l.length cv ∧ F 18 = .int .i64 l.length ∧ ∃ i : Nat, i ≤ l.length ∧ F 19 = .int .i64 i ∧ F 3 = .int .i64 (lastOf l i) ∧ ∀ j, j < i → good p l j = true)
      (fun F _ => l.length - (vi (F 19)).toNat) rfl ⟨Bel.refl _ _, rfl, rfl, rfl, 0, by omega, rfl, rfl, fun j hj => by omega⟩ ?_
    rintro F g ⟨hg, f1, f17, f18, i, hi, f19, f3, hall⟩
    have hgs := hg.size
    have hBg : Bel h.size h g := hHb.trans (hg.mono (by omega))
    by_cases hlt : i < l.length
    · have hlt' : (i : Int) < l.length := by omega
      obtain ⟨bb, oo, rfl, hbb, hcs0, hcs⟩ := hcs (by intro e; rw [e] at hlt; simp at hlt)
      have hbb1 : bb < H.size := by have := hHb.size; omega
      have r1 : rd g ⟨bb, oo + i * 8, none⟩ 8 = some (voteC l[i]) := by
        rw [rd_bel hBg (by exact hbb)]; exact hcs i hlt
      have rp : rd g ⟨h.size, 0, none⟩ 2 = some [.int .i64 p.r, .int .i64 p.n] := by rw [rd_bel hg (by exact hz), rd_part x0 (by simp [accC])]; rfl
      have hsl := slotAt_of hlt
      have gl := good_last (p := p) hlt
      obtain ⟨v, hv⟩ : ∃ v, v = l[i] := ⟨_, rfl⟩
      rw [← hv] at r1 gl hsl
      unfold voteC at r1
      have hnext : lastOf l (i + 1) = v.slot := by unfold lastOf; rw [if_neg (by omega), Nat.add_sub_cancel]; exact hsl
      simp (config := {maxSteps := 2000000, implicitDefEqProofs := false}) only [go_sem, ↓reduceIte, Nat.reduceEqDiff, Nat.reduceAdd, Nat.reduceMul, Nat.reduceLeDiff, Nat.reduceLT, Nat.reduceSub, IntWalk.iteOmega, IntWalk.toNatUp, reduceCtorEq, false_and, and_false, false_or, or_false, true_or, or_true, not_true_eq_false, not_false_eq_true, Bool.not_true, Bool.not_false, Bool.and_true, Bool.true_and, Bool.and_false, Bool.false_and, Bool.not_eq_true, beq_self_eq_true, Nat.add_zero, Int.reduceLE, Int.reduceLT, Int.reduceToNat, Int.reduceNeg, f1, f17, f18, f19, hlt', r1]
      refine (vote_ok T _ v).use ?_
      rintro _ g1 ⟨rfl, b1⟩
      have b1s := b1.size
      simp only [Array.size_push] at b1s
      have y0 : g1[g.size]? = some (.cells [.int .i64 v.slot, .int .i64 v.b.r, .int .i64 v.b.n, .int .i64 v.k, .int .i64 v.c, .int .i64 v.s, .int .i64 v.nm, .int .i64 v.v].toArray 80) := b1.get (by simp) get_push_last
      have y1 : hc g1 ⟨g.size, 0, none⟩ = some (.int .i64 v.slot) := by rw [hc_last y0]; rfl
      have y2 : rd g1 ⟨g.size, 1, none⟩ 2 = some [.int .i64 v.b.r, .int .i64 v.b.n] := by rw [rd_part y0 (by simp)]; rfl
      have hgp : Bel g.size g g1 := (Bel.push (Nat.le_refl _) _).trans (b1.mono (by simp))
      have y3 : rd g1 ⟨h.size, 0, none⟩ 2 = some [.int .i64 p.r, .int .i64 p.n] := by rw [rd_bel hgp (by show h.size < g.size; omega)]; exact rp
      have hB1 : Bel h.size h g1 := hBg.trans (hgp.mono (by omega))
      have hg1 : Bel H.size H g1 := hg.trans (hgp.mono (by omega))
      by_cases c1 : voteMay v
      · by_cases c2 : v.slot ≤ lastOf l i
        · have e := accErr_bad (p := p) hlt (by cases hv' : good p l i with | false => rfl | true => exact absurd (gl.1 hv').2.2 (by omega))
          simp (config := {maxSteps := 2000000, implicitDefEqProofs := false}) only [go_sem, ↓reduceIte, Nat.reduceEqDiff, Nat.reduceAdd, Nat.reduceMul, Nat.reduceLeDiff, Nat.reduceLT, Nat.reduceSub, IntWalk.iteOmega, IntWalk.toNatUp, reduceCtorEq, false_and, and_false, false_or, or_false, true_or, or_true, not_true_eq_false, not_false_eq_true, Bool.not_true, Bool.not_false, Bool.and_true, Bool.true_and, Bool.and_false, Bool.false_and, Bool.not_eq_true, beq_self_eq_true, Nat.add_zero, Int.reduceLE, Int.reduceLT, Int.reduceToNat, Int.reduceNeg, f1, f3, c1, c2, y1, e, hB1]
        · simp (config := {maxSteps := 2000000, implicitDefEqProofs := false}) only [go_sem, ↓reduceIte, Nat.reduceEqDiff, Nat.reduceAdd, Nat.reduceMul, Nat.reduceLeDiff, Nat.reduceLT, Nat.reduceSub, IntWalk.iteOmega, IntWalk.toNatUp, reduceCtorEq, false_and, and_false, false_or, or_false, true_or, or_true, not_true_eq_false, not_false_eq_true, Bool.not_true, Bool.not_false, Bool.and_true, Bool.true_and, Bool.and_false, Bool.false_and, Bool.not_eq_true, beq_self_eq_true, Nat.add_zero, Int.reduceLE, Int.reduceLT, Int.reduceToNat, Int.reduceNeg, f1, f3, c1, c2, y1, y2, y3]
          refine (compare_ok T _ v.b p).use ?_
          rintro _ g2 ⟨rfl, b2⟩
          have y4 : hc g2 ⟨g.size, 0, none⟩ = some (.int .i64 v.slot) := by rw [b2.hc (by show g.size < g1.size; omega)]; exact y1
          have hB2 : Bel h.size h g2 := hB1.trans (b2.mono (by have := hB1.size; omega))
          have hg2 : Bel H.size H g2 := hg1.trans (b2.mono (by have := hg1.size; omega))
          by_cases c3 : below p v.b
          · have e := accErr_bad (p := p) hlt (by cases hv' : good p l i with | false => rfl | true => exact absurd c3 (gl.1 hv').2.1)
            have c3' := (bcmp_pos v.b p).2 c3
            simp (config := {maxSteps := 2000000, implicitDefEqProofs := false}) only [go_sem, ↓reduceIte, Nat.reduceEqDiff, Nat.reduceAdd, Nat.reduceMul, Nat.reduceLeDiff, Nat.reduceLT, Nat.reduceSub, IntWalk.iteOmega, IntWalk.toNatUp, reduceCtorEq, false_and, and_false, false_or, or_false, true_or, or_true, not_true_eq_false, not_false_eq_true, Bool.not_true, Bool.not_false, Bool.and_true, Bool.true_and, Bool.and_false, Bool.false_and, Bool.not_eq_true, beq_self_eq_true, Nat.add_zero, Int.reduceLE, Int.reduceLT, Int.reduceToNat, Int.reduceNeg, c3', e, hB2]
          · have c3' : ¬ 0 < bcmp v.b p := fun h => c3 ((bcmp_pos v.b p).1 h)
            simp (config := {maxSteps := 2000000, implicitDefEqProofs := false}) only [go_sem, ↓reduceIte, Nat.reduceEqDiff, Nat.reduceAdd, Nat.reduceMul, Nat.reduceLeDiff, Nat.reduceLT, Nat.reduceSub, IntWalk.iteOmega, IntWalk.toNatUp, reduceCtorEq, false_and, and_false, false_or, or_false, true_or, or_true, not_true_eq_false, not_false_eq_true, Bool.not_true, Bool.not_false, Bool.and_true, Bool.true_and, Bool.and_false, Bool.false_and, Bool.not_eq_true, beq_self_eq_true, Nat.add_zero, Int.reduceLE, Int.reduceLT, Int.reduceToNat, Int.reduceNeg, c3', f1, f17, f18, f19, y4]
            refine ⟨⟨hg2, f1, f17, f18, i + 1, hlt, rfl, by rw [hnext]; rfl, fun j hj => ?_⟩, ?_⟩
            · by_cases hji : j = i
              · subst hji; exact gl.2 ⟨c1, c3, by omega⟩
              · exact hall j (by omega)
            · simp only [vi, updo_some, ↓reduceIte, f19]; omega
      · have e := accErr_bad (p := p) hlt (by cases hv' : good p l i with | false => rfl | true => exact absurd (gl.1 hv').1 c1)
        simp (config := {maxSteps := 2000000, implicitDefEqProofs := false}) only [go_sem, ↓reduceIte, Nat.reduceEqDiff, Nat.reduceAdd, Nat.reduceMul, Nat.reduceLeDiff, Nat.reduceLT, Nat.reduceSub, IntWalk.iteOmega, IntWalk.toNatUp, reduceCtorEq, false_and, and_false, false_or, or_false, true_or, or_true, not_true_eq_false, not_false_eq_true, Bool.not_true, Bool.not_false, Bool.and_true, Bool.true_and, Bool.and_false, Bool.false_and, Bool.not_eq_true, beq_self_eq_true, Nat.add_zero, Int.reduceLE, Int.reduceLT, Int.reduceToNat, Int.reduceNeg, c1, e, hB1]
    · have hge : ¬ (i : Int) < l.length := by omega
      obtain rfl : i = l.length := by omega
      have e := accErr_good hnot hall
      simp (config := {maxSteps := 2000000, implicitDefEqProofs := false}) only [go_sem, ↓reduceIte, Nat.reduceEqDiff, Nat.reduceAdd, Nat.reduceMul, Nat.reduceLeDiff, Nat.reduceLT, Nat.reduceSub, IntWalk.iteOmega, IntWalk.toNatUp, reduceCtorEq, false_and, and_false, false_or, or_false, true_or, or_true, not_true_eq_false, not_false_eq_true, Bool.not_true, Bool.not_false, Bool.and_true, Bool.true_and, Bool.and_false, Bool.false_and, Bool.not_eq_true, beq_self_eq_true, Nat.add_zero, Int.reduceLE, Int.reduceLT, Int.reduceToNat, Int.reduceNeg, f17, f18, f19, hge, e, hBg]
  · have z' : ¬ p.r = 0 ∨ ¬ p.n = 0 := by omega
    by_cases q : ballotMay p
    · have hnot : ¬ (¬ ballotMay p ∧ ¬ (p.r = 0 ∧ p.n = 0)) := fun h => h.1 q
      have zz : (p.r = 0 ∧ p.n = 0) = False := eq_false z
      by_cases z1 : p.r = 0
      · have z2 : ¬ p.n = 0 := fun e => z ⟨z1, e⟩
        exact absurd q.1.1 (by omega)
      · simp (config := {maxSteps := 2000000, implicitDefEqProofs := false}) only [go_sem, ↓reduceIte, Nat.reduceEqDiff, Nat.reduceAdd, Nat.reduceMul, Nat.reduceLeDiff, Nat.reduceLT, Nat.reduceSub, IntWalk.iteOmega, IntWalk.toNatUp, reduceCtorEq, false_and, and_false, false_or, or_false, true_or, or_true, not_true_eq_false, not_false_eq_true, Bool.not_true, Bool.not_false, Bool.and_true, Bool.true_and, Bool.and_false, Bool.false_and, Bool.not_eq_true, beq_self_eq_true, Nat.add_zero, Int.reduceLE, Int.reduceLT, Int.reduceToNat, Int.reduceNeg, z1]
        refine (ballot_ok T _ p).use ?_
        rintro _ _ ⟨rfl, rfl⟩
        simp (config := {maxSteps := 2000000, implicitDefEqProofs := false}) only [go_sem, ↓reduceIte, Nat.reduceEqDiff, Nat.reduceAdd, Nat.reduceMul, Nat.reduceLeDiff, Nat.reduceLT, Nat.reduceSub, IntWalk.iteOmega, IntWalk.toNatUp, reduceCtorEq, false_and, and_false, false_or, or_false, true_or, or_true, not_true_eq_false, not_false_eq_true, Bool.not_true, Bool.not_false, Bool.and_true, Bool.true_and, Bool.and_false, Bool.false_and, Bool.not_eq_true, beq_self_eq_true, Nat.add_zero, Int.reduceLE, Int.reduceLT, Int.reduceToNat, Int.reduceNeg, q]
        obtain ⟨H, hH⟩ : ∃ H : Hp, H = (h.push (.cells [.int .i64 p.r, .int .i64 p.n, .slice pv l.length cv].toArray 85)).push (.cells (balC p).toArray 67) := ⟨_, rfl⟩
        have x0 : H[h.size]? = some (.cells (accC p (.slice pv l.length cv)).toArray 85) := by rw [hH]; simp only [Array.getElem?_push, Array.size_push, IntWalk.iteOmega, ↓reduceIte]; rfl
        have hHb : Bel h.size h H := by rw [hH]; (repeat' (first | exact Bel.refl _ _ | assumption | refine Bel.add ?_ _ | refine Bel.addSet ?_ (by first | omega | (simp; omega)) _ | refine Bel.trans (by assumption) ?_))
        rw [← hH]
        clear hH
        have hz := lt_of_get x0
        refine VS.loop' (fun F g => Bel H.size H g ∧ F 1 = .pointer (some ⟨h.size, 0, none⟩) ∧ F 17 = .slice pv l.length cv ∧ F 18 = .int .i64 l.length ∧ ∃ i : Nat, i ≤ l.length ∧ F 19 = .int .i64 i ∧ F 3 = .int .i64 (lastOf l i) ∧ ∀ j, j < i → good p l j = true)
          (fun F _ => l.length - (vi (F 19)).toNat) rfl ⟨Bel.refl _ _, rfl, rfl, rfl, 0, by omega, rfl, rfl, fun j hj => by omega⟩ ?_
        rintro F g ⟨hg, f1, f17, f18, i, hi, f19, f3, hall⟩
        have hgs := hg.size
        have hBg : Bel h.size h g := hHb.trans (hg.mono (by omega))
        by_cases hlt : i < l.length
        · have hlt' : (i : Int) < l.length := by omega
          obtain ⟨bb, oo, rfl, hbb, hcs0, hcs⟩ := hcs (by intro e; rw [e] at hlt; simp at hlt)
          have hbb1 : bb < H.size := by have := hHb.size; omega
          have r1 : rd g ⟨bb, oo + i * 8, none⟩ 8 = some (voteC l[i]) := by
            rw [rd_bel hBg (by exact hbb)]; exact hcs i hlt
          have rp : rd g ⟨h.size, 0, none⟩ 2 = some [.int .i64 p.r, .int .i64 p.n] := by rw [rd_bel hg (by exact hz), rd_part x0 (by simp [accC])]; rfl
          have hsl := slotAt_of hlt
          have gl := good_last (p := p) hlt
          obtain ⟨v, hv⟩ : ∃ v, v = l[i] := ⟨_, rfl⟩
          rw [← hv] at r1 gl hsl
          unfold voteC at r1
          have hnext : lastOf l (i + 1) = v.slot := by unfold lastOf; rw [if_neg (by omega), Nat.add_sub_cancel]; exact hsl
          simp (config := {maxSteps := 2000000, implicitDefEqProofs := false}) only [go_sem, ↓reduceIte, Nat.reduceEqDiff, Nat.reduceAdd, Nat.reduceMul, Nat.reduceLeDiff, Nat.reduceLT, Nat.reduceSub, IntWalk.iteOmega, IntWalk.toNatUp, reduceCtorEq, false_and, and_false, false_or, or_false, true_or, or_true, not_true_eq_false, not_false_eq_true, Bool.not_true, Bool.not_false, Bool.and_true, Bool.true_and, Bool.and_false, Bool.false_and, Bool.not_eq_true, beq_self_eq_true, Nat.add_zero, Int.reduceLE, Int.reduceLT, Int.reduceToNat, Int.reduceNeg, f1, f17, f18, f19, hlt', r1]
          refine (vote_ok T _ v).use ?_
          rintro _ g1 ⟨rfl, b1⟩
          have b1s := b1.size
          simp only [Array.size_push] at b1s
          have y0 : g1[g.size]? = some (.cells [.int .i64 v.slot, .int .i64 v.b.r, .int .i64 v.b.n, .int .i64 v.k, .int .i64 v.c, .int .i64 v.s, .int .i64 v.nm, .int .i64 v.v].toArray 80) := b1.get (by simp) get_push_last
          have y1 : hc g1 ⟨g.size, 0, none⟩ = some (.int .i64 v.slot) := by rw [hc_last y0]; rfl
          have y2 : rd g1 ⟨g.size, 1, none⟩ 2 = some [.int .i64 v.b.r, .int .i64 v.b.n] := by rw [rd_part y0 (by simp)]; rfl
          have hgp : Bel g.size g g1 := (Bel.push (Nat.le_refl _) _).trans (b1.mono (by simp))
          have y3 : rd g1 ⟨h.size, 0, none⟩ 2 = some [.int .i64 p.r, .int .i64 p.n] := by rw [rd_bel hgp (by show h.size < g.size; omega)]; exact rp
          have hB1 : Bel h.size h g1 := hBg.trans (hgp.mono (by omega))
          have hg1 : Bel H.size H g1 := hg.trans (hgp.mono (by omega))
          by_cases c1 : voteMay v
          · by_cases c2 : v.slot ≤ lastOf l i
            · have e := accErr_bad (p := p) hlt (by cases hv' : good p l i with | false => rfl | true => exact absurd (gl.1 hv').2.2 (by omega))
              simp (config := {maxSteps := 2000000, implicitDefEqProofs := false}) only [go_sem, ↓reduceIte, Nat.reduceEqDiff, Nat.reduceAdd, Nat.reduceMul, Nat.reduceLeDiff, Nat.reduceLT, Nat.reduceSub, IntWalk.iteOmega, IntWalk.toNatUp, reduceCtorEq, false_and, and_false, false_or, or_false, true_or, or_true, not_true_eq_false, not_false_eq_true, Bool.not_true, Bool.not_false, Bool.and_true, Bool.true_and, Bool.and_false, Bool.false_and, Bool.not_eq_true, beq_self_eq_true, Nat.add_zero, Int.reduceLE, Int.reduceLT, Int.reduceToNat, Int.reduceNeg, f1, f3, c1, c2, y1, e, hB1]
            · simp (config := {maxSteps := 2000000, implicitDefEqProofs := false}) only [go_sem, ↓reduceIte, Nat.reduceEqDiff, Nat.reduceAdd, Nat.reduceMul, Nat.reduceLeDiff, Nat.reduceLT, Nat.reduceSub, IntWalk.iteOmega, IntWalk.toNatUp, reduceCtorEq, false_and, and_false, false_or, or_false, true_or, or_true, not_true_eq_false, not_false_eq_true, Bool.not_true, Bool.not_false, Bool.and_true, Bool.true_and, Bool.and_false, Bool.false_and, Bool.not_eq_true, beq_self_eq_true, Nat.add_zero, Int.reduceLE, Int.reduceLT, Int.reduceToNat, Int.reduceNeg, f1, f3, c1, c2, y1, y2, y3]
              refine (compare_ok T _ v.b p).use ?_
              rintro _ g2 ⟨rfl, b2⟩
              have y4 : hc g2 ⟨g.size, 0, none⟩ = some (.int .i64 v.slot) := by rw [b2.hc (by show g.size < g1.size; omega)]; exact y1
              have hB2 : Bel h.size h g2 := hB1.trans (b2.mono (by have := hB1.size; omega))
              have hg2 : Bel H.size H g2 := hg1.trans (b2.mono (by have := hg1.size; omega))
              by_cases c3 : below p v.b
              · have e := accErr_bad (p := p) hlt (by cases hv' : good p l i with | false => rfl | true => exact absurd c3 (gl.1 hv').2.1)
                have c3' := (bcmp_pos v.b p).2 c3
                simp (config := {maxSteps := 2000000, implicitDefEqProofs := false}) only [go_sem, ↓reduceIte, Nat.reduceEqDiff, Nat.reduceAdd, Nat.reduceMul, Nat.reduceLeDiff, Nat.reduceLT, Nat.reduceSub, IntWalk.iteOmega, IntWalk.toNatUp, reduceCtorEq, false_and, and_false, false_or, or_false, true_or, or_true, not_true_eq_false, not_false_eq_true, Bool.not_true, Bool.not_false, Bool.and_true, Bool.true_and, Bool.and_false, Bool.false_and, Bool.not_eq_true, beq_self_eq_true, Nat.add_zero, Int.reduceLE, Int.reduceLT, Int.reduceToNat, Int.reduceNeg, c3', e, hB2]
              · have c3' : ¬ 0 < bcmp v.b p := fun h => c3 ((bcmp_pos v.b p).1 h)
                simp (config := {maxSteps := 2000000, implicitDefEqProofs := false}) only [go_sem, ↓reduceIte, Nat.reduceEqDiff, Nat.reduceAdd, Nat.reduceMul, Nat.reduceLeDiff, Nat.reduceLT, Nat.reduceSub, IntWalk.iteOmega, IntWalk.toNatUp, reduceCtorEq, false_and, and_false, false_or, or_false, true_or, or_true, not_true_eq_false, not_false_eq_true, Bool.not_true, Bool.not_false, Bool.and_true, Bool.true_and, Bool.and_false, Bool.false_and, Bool.not_eq_true, beq_self_eq_true, Nat.add_zero, Int.reduceLE, Int.reduceLT, Int.reduceToNat, Int.reduceNeg, c3', f1, f17, f18, f19, y4]
                refine ⟨⟨hg2, f1, f17, f18, i + 1, hlt, rfl, by rw [hnext]; rfl, fun j hj => ?_⟩, ?_⟩
                · by_cases hji : j = i
                  · subst hji; exact gl.2 ⟨c1, c3, by omega⟩
                  · exact hall j (by omega)
                · simp only [vi, updo_some, ↓reduceIte, f19]; omega
          · have e := accErr_bad (p := p) hlt (by cases hv' : good p l i with | false => rfl | true => exact absurd (gl.1 hv').1 c1)
            simp (config := {maxSteps := 2000000, implicitDefEqProofs := false}) only [go_sem, ↓reduceIte, Nat.reduceEqDiff, Nat.reduceAdd, Nat.reduceMul, Nat.reduceLeDiff, Nat.reduceLT, Nat.reduceSub, IntWalk.iteOmega, IntWalk.toNatUp, reduceCtorEq, false_and, and_false, false_or, or_false, true_or, or_true, not_true_eq_false, not_false_eq_true, Bool.not_true, Bool.not_false, Bool.and_true, Bool.true_and, Bool.and_false, Bool.false_and, Bool.not_eq_true, beq_self_eq_true, Nat.add_zero, Int.reduceLE, Int.reduceLT, Int.reduceToNat, Int.reduceNeg, c1, e, hB1]
        · have hge : ¬ (i : Int) < l.length := by omega
          obtain rfl : i = l.length := by omega
          have e := accErr_good hnot hall
          simp (config := {maxSteps := 2000000, implicitDefEqProofs := false}) only [go_sem, ↓reduceIte, Nat.reduceEqDiff, Nat.reduceAdd, Nat.reduceMul, Nat.reduceLeDiff, Nat.reduceLT, Nat.reduceSub, IntWalk.iteOmega, IntWalk.toNatUp, reduceCtorEq, false_and, and_false, false_or, or_false, true_or, or_true, not_true_eq_false, not_false_eq_true, Bool.not_true, Bool.not_false, Bool.and_true, Bool.true_and, Bool.and_false, Bool.false_and, Bool.not_eq_true, beq_self_eq_true, Nat.add_zero, Int.reduceLE, Int.reduceLT, Int.reduceToNat, Int.reduceNeg, f17, f18, f19, hge, e, hBg]
    · have e : accErr p l = 5 := by unfold accErr; rw [if_pos ⟨q, z⟩]
      by_cases z1 : p.r = 0
      · have z2 : ¬ p.n = 0 := fun e => z ⟨z1, e⟩
        have hb := ballot_ok T (h.push (.cells [.int .i64 0, .int .i64 p.n, .slice pv l.length cv].toArray 85)) p
        simp (config := {maxSteps := 2000000, implicitDefEqProofs := false}) only [go_sem, ↓reduceIte, Nat.reduceEqDiff, Nat.reduceAdd, Nat.reduceMul, Nat.reduceLeDiff, Nat.reduceLT, Nat.reduceSub, IntWalk.iteOmega, IntWalk.toNatUp, reduceCtorEq, false_and, and_false, false_or, or_false, true_or, or_true, not_true_eq_false, not_false_eq_true, Bool.not_true, Bool.not_false, Bool.and_true, Bool.true_and, Bool.and_false, Bool.false_and, Bool.not_eq_true, beq_self_eq_true, Nat.add_zero, Int.reduceLE, Int.reduceLT, Int.reduceToNat, Int.reduceNeg, z1, z2]
        unfold balC at hb
        rw [z1] at hb
        refine hb.use ?_
        rintro _ _ ⟨rfl, rfl⟩
        simp (config := {maxSteps := 2000000, implicitDefEqProofs := false}) only [go_sem, ↓reduceIte, Nat.reduceEqDiff, Nat.reduceAdd, Nat.reduceMul, Nat.reduceLeDiff, Nat.reduceLT, Nat.reduceSub, IntWalk.iteOmega, IntWalk.toNatUp, reduceCtorEq, false_and, and_false, false_or, or_false, true_or, or_true, not_true_eq_false, not_false_eq_true, Bool.not_true, Bool.not_false, Bool.and_true, Bool.true_and, Bool.and_false, Bool.false_and, Bool.not_eq_true, beq_self_eq_true, Nat.add_zero, Int.reduceLE, Int.reduceLT, Int.reduceToNat, Int.reduceNeg, q, e]
      · simp (config := {maxSteps := 2000000, implicitDefEqProofs := false}) only [go_sem, ↓reduceIte, Nat.reduceEqDiff, Nat.reduceAdd, Nat.reduceMul, Nat.reduceLeDiff, Nat.reduceLT, Nat.reduceSub, IntWalk.iteOmega, IntWalk.toNatUp, reduceCtorEq, false_and, and_false, false_or, or_false, true_or, or_true, not_true_eq_false, not_false_eq_true, Bool.not_true, Bool.not_false, Bool.and_true, Bool.true_and, Bool.and_false, Bool.false_and, Bool.not_eq_true, beq_self_eq_true, Nat.add_zero, Int.reduceLE, Int.reduceLT, Int.reduceToNat, Int.reduceNeg, z1]
        refine (ballot_ok T _ p).use ?_
        rintro _ _ ⟨rfl, rfl⟩
        simp (config := {maxSteps := 2000000, implicitDefEqProofs := false}) only [go_sem, ↓reduceIte, Nat.reduceEqDiff, Nat.reduceAdd, Nat.reduceMul, Nat.reduceLeDiff, Nat.reduceLT, Nat.reduceSub, IntWalk.iteOmega, IntWalk.toNatUp, reduceCtorEq, false_and, and_false, false_or, or_false, true_or, or_true, not_true_eq_false, not_false_eq_true, Bool.not_true, Bool.not_false, Bool.and_true, Bool.true_and, Bool.and_false, Bool.false_and, Bool.not_eq_true, beq_self_eq_true, Nat.add_zero, Int.reduceLE, Int.reduceLT, Int.reduceToNat, Int.reduceNeg, q, e]
theorem acceptorFault_ok (T : World) (h : Hp) (p : Bal) (u : Value) (l : List Vt) (s : Ts voteC 8 h u l) (hlen : l.length ≤ 4611686018427387904) :
    CallsH Tryd.prog T 178 #[.agg (accC p u).toArray] h fun v' h' => v' = .int .i64 (accErr p l) ∧ Bel h.size h h' := by
  obtain ⟨pv, cv, rfl, hcs⟩ := votes_open s
  refine CallsH.of_code' (args := [_]) Tryd.func178 rfl rfl rfl rfl ?_
  unfold accC
  simp (config := {maxSteps := 2000000, implicitDefEqProofs := false}) only [go_sem, ↓reduceIte, Nat.reduceEqDiff, Nat.reduceAdd, Nat.reduceMul, Nat.reduceLeDiff, Nat.reduceLT, Nat.reduceSub, IntWalk.iteOmega, IntWalk.toNatUp, reduceCtorEq, false_and, and_false, false_or, or_false, true_or, or_true, not_true_eq_false, not_false_eq_true, Bool.not_true, Bool.not_false, Bool.and_true, Bool.true_and, Bool.and_false, Bool.false_and, Bool.not_eq_true, beq_self_eq_true, Nat.add_zero, Int.reduceLE, Int.reduceLT, Int.reduceToNat, Int.reduceNeg]
  refine (ballotMay_ok T _ p).use ?_
  rintro _ _ ⟨rfl, rfl⟩
  obtain ⟨H, hH⟩ : ∃ H : Hp, H = (h.push (.cells [.int .i64 p.r, .int .i64 p.n, .slice pv l.length cv].toArray 85)).push (.cells (balC p).toArray 67) := ⟨_, rfl⟩
  have x0 : H[h.size]? = some (.cells (accC p (.slice pv l.length cv)).toArray 85) := by rw [hH]; simp only [Array.getElem?_push, Array.size_push, IntWalk.iteOmega, ↓reduceIte]; rfl
  have hHb : Bel h.size h H := by rw [hH]; (repeat' (first | exact Bel.refl _ _ | assumption | refine Bel.add ?_ _ | refine Bel.addSet ?_ (by first | omega | (simp; omega)) _ | refine Bel.trans (by assumption) ?_))
  rw [← hH]
  clear hH
  have hz := lt_of_get x0
  have p0 : hc H ⟨h.size, 0, none⟩ = some (.int .i64 p.r) := by rw [hc_last x0]; rfl
  have p1 : hc H ⟨h.size, 1, none⟩ = some (.int .i64 p.n) := by rw [hc_last x0]; rfl
  by_cases q : ballotMay p
  · have hnot : ¬ (¬ ballotMay p ∧ ¬ (p.r = 0 ∧ p.n = 0)) := fun h => h.1 q
    simp (config := {maxSteps := 2000000, implicitDefEqProofs := false}) only [go_sem, ↓reduceIte, Nat.reduceEqDiff, Nat.reduceAdd, Nat.reduceMul, Nat.reduceLeDiff, Nat.reduceLT, Nat.reduceSub, IntWalk.iteOmega, IntWalk.toNatUp, reduceCtorEq, false_and, and_false, false_or, or_false, true_or, or_true, not_true_eq_false, not_false_eq_true, Bool.not_true, Bool.not_false, Bool.and_true, Bool.true_and, Bool.and_false, Bool.false_and, Bool.not_eq_true, beq_self_eq_true, Nat.add_zero, Int.reduceLE, Int.reduceLT, Int.reduceToNat, Int.reduceNeg, q]
    refine VS.loop' (fun F g => Bel H.size H g ∧ F 1 = .pointer (some ⟨h.size, 0, none⟩) ∧ ∃ i : Nat, i ≤ l.length ∧ F 3 = .int .i64 i ∧ ∀ j, j < i → good p l j = true)
      (fun F _ => l.length - (vi (F 3)).toNat) rfl ⟨Bel.refl _ _, rfl, 0, by omega, rfl, fun j hj => by omega⟩ ?_
    rintro F g ⟨hg, f1, i, hi, f3, hall⟩
    have hgs := hg.size
    have hBg : Bel h.size h g := hHb.trans (hg.mono (by omega))
    have rv : hc g ⟨h.size, 2, none⟩ = some (.slice pv l.length cv) := by rw [hg.hc (by exact hz), hc_last x0]; rfl
    by_cases hlt : i < l.length
    · have hlt' : (i : Int) < l.length := by omega
      obtain ⟨bb, oo, rfl, hbb, hcs0, hcs⟩ := hcs (by intro e; rw [e] at hlt; simp at hlt)
      have hbb1 : bb < H.size := by have := hHb.size; omega
      have hbg : bb < g.size := by omega
      have r1 : rd g ⟨bb, oo + i * 8, none⟩ 8 = some (voteC l[i]) := by
        rw [rd_bel hBg (by exact hbb)]; exact hcs i hlt
      have rp : rd g ⟨h.size, 0, none⟩ 2 = some [.int .i64 p.r, .int .i64 p.n] := by rw [rd_bel hg (by exact hz), rd_part x0 (by simp [accC])]; rfl
      have gi := good_iff (p := p) hlt
      have hlast : i ≠ 0 → hc g ⟨bb, oo + (i - 1) * 8, none⟩ = some (.int .i64 (slotAt l (i - 1))) := by
        intro h0
        have hj : i - 1 < l.length := by omega
        rw [slotAt_of hj, hBg.hc (by exact hbb)]
        exact hcs0 (i - 1) hj
      obtain ⟨v, hv⟩ : ∃ v, v = l[i] := ⟨_, rfl⟩
      rw [← hv] at r1 gi
      unfold voteC at r1
      simp (config := {maxSteps := 2000000, implicitDefEqProofs := false}) only [go_sem, ↓reduceIte, Nat.reduceEqDiff, Nat.reduceAdd, Nat.reduceMul, Nat.reduceLeDiff, Nat.reduceLT, Nat.reduceSub, IntWalk.iteOmega, IntWalk.toNatUp, reduceCtorEq, false_and, and_false, false_or, or_false, true_or, or_true, not_true_eq_false, not_false_eq_true, Bool.not_true, Bool.not_false, Bool.and_true, Bool.true_and, Bool.and_false, Bool.false_and, Bool.not_eq_true, beq_self_eq_true, Nat.add_zero, Int.reduceLE, Int.reduceLT, Int.reduceToNat, Int.reduceNeg, f1, f3, rv, hlt', r1]
      have hzg : h.size < g.size := by omega
      refine VS.w (g.size + 1) [] (.q 0 (.s 1 (.q 2 (.q 3 (.q 4 (.q 5 (.q 6 (.q 7 (.s 8 (.q 9 (.q 10 (.q 11 (.q 12 (.q 13 (.q 14 (.q 15 (.q 16 (.q 17 (.q 18 (.q 19 (.q 20 (.q 21 (.q 22 (.q 23 (.q 24 (.q 25 .nil)))))))))))))))))))))))))) mixed (by kernel_rfl) ?_
      have q0 : g.size < g.size + 1 := by omega
      simp (config := {maxSteps := 2000000, implicitDefEqProofs := false}) only [go_sem, ↓reduceIte, Nat.reduceEqDiff, Nat.reduceAdd, Nat.reduceMul, Nat.reduceLeDiff, Nat.reduceLT, Nat.reduceSub, IntWalk.iteOmega, IntWalk.toNatUp, reduceCtorEq, false_and, and_false, false_or, or_false, true_or, or_true, not_true_eq_false, not_false_eq_true, Bool.not_true, Bool.not_false, Bool.and_true, Bool.true_and, Bool.and_false, Bool.false_and, Bool.not_eq_true, beq_self_eq_true, Nat.add_zero, Int.reduceLE, Int.reduceLT, Int.reduceToNat, Int.reduceNeg, q0]
      refine (voteMay_ok T _ v).use ?_
      rintro _ g1 ⟨rfl, b1⟩
      have b1s := b1.size
      simp only [Array.size_push] at b1s
      have hgp : Bel g.size g g1 := (Bel.push (Nat.le_refl _) _).trans (b1.mono (by simp))
      have hB1 : Bel h.size h g1 := hBg.trans (hgp.mono (by omega))
      have hg1 : Bel H.size H g1 := hg.trans (hgp.mono (by omega))
      have b1' := b1
      rw [Array.size_push] at b1'
      have q1' : h.size < g.size + 1 := by omega
      have q2' : bb < g.size + 1 := by omega
      by_cases c1 : voteMay v
      · simp (config := {maxSteps := 2000000, implicitDefEqProofs := false}) only [go_sem, ↓reduceIte, Nat.reduceEqDiff, Nat.reduceAdd, Nat.reduceMul, Nat.reduceLeDiff, Nat.reduceLT, Nat.reduceSub, IntWalk.iteOmega, IntWalk.toNatUp, reduceCtorEq, false_and, and_false, false_or, or_false, true_or, or_true, not_true_eq_false, not_false_eq_true, Bool.not_true, Bool.not_false, Bool.and_true, Bool.true_and, Bool.and_false, Bool.false_and, Bool.not_eq_true, beq_self_eq_true, Nat.add_zero, Int.reduceLE, Int.reduceLT, Int.reduceToNat, Int.reduceNeg, c1, f1, rp, q0, q1']
        refine ⟨b1', ?_⟩
        refine (ballotBelow_ok T _ p v.b).use ?_
        rintro _ g2 ⟨rfl, b2⟩
        have hB2 : Bel h.size h g2 := hB1.trans (b2.mono (by have := hB1.size; omega))
        have hg2 : Bel H.size H g2 := hg1.trans (b2.mono (by have := hg1.size; omega))
        have b2' := b1'.trans (b2.mono (by omega))
        by_cases c2 : below p v.b
        · have e := accErr_bad (p := p) hlt (by cases hv' : good p l i with | false => rfl | true => exact absurd c2 (gi.1 hv').2.1)
          simp (config := {maxSteps := 2000000, implicitDefEqProofs := false}) only [go_sem, ↓reduceIte, Nat.reduceEqDiff, Nat.reduceAdd, Nat.reduceMul, Nat.reduceLeDiff, Nat.reduceLT, Nat.reduceSub, IntWalk.iteOmega, IntWalk.toNatUp, reduceCtorEq, false_and, and_false, false_or, or_false, true_or, or_true, not_true_eq_false, not_false_eq_true, Bool.not_true, Bool.not_false, Bool.and_true, Bool.true_and, Bool.and_false, Bool.false_and, Bool.not_eq_true, beq_self_eq_true, Nat.add_zero, Int.reduceLE, Int.reduceLT, Int.reduceToNat, Int.reduceNeg, c2, e]
          exact ⟨b2', hB2⟩
        · by_cases c3 : i = 0
          · subst c3
            have i0 : ¬ 0 < ((0 : Nat) : Int) := by decide
            simp (config := {maxSteps := 2000000, implicitDefEqProofs := false}) only [go_sem, ↓reduceIte, Nat.reduceEqDiff, Nat.reduceAdd, Nat.reduceMul, Nat.reduceLeDiff, Nat.reduceLT, Nat.reduceSub, IntWalk.iteOmega, IntWalk.toNatUp, reduceCtorEq, false_and, and_false, false_or, or_false, true_or, or_true, not_true_eq_false, not_false_eq_true, Bool.not_true, Bool.not_false, Bool.and_true, Bool.true_and, Bool.and_false, Bool.false_and, Bool.not_eq_true, beq_self_eq_true, Nat.add_zero, Int.reduceLE, Int.reduceLT, Int.reduceToNat, Int.reduceNeg, c2, f1, f3, i0]
            refine ⟨b2', ⟨hg2, f1, 1, by omega, rfl, fun j hj => ?_⟩, ?_⟩
            · obtain rfl : j = 0 := by omega
              exact gi.2 ⟨c1, c2, .inl rfl⟩
            · simp only [vi, updo_some, ↓reduceIte, f3]; omega
          · have i0 : 0 < (i : Int) := by omega
            have rl := hlast c3
            have i1 : ((i : Int) - 1).toNat = i - 1 := by omega
            have i2 : 0 ≤ (i : Int) - 1 := by omega
            have i3 : (i : Int) - 1 < l.length := by omega
            have rv' := rv
            by_cases c4 : v.slot ≤ slotAt l (i - 1)
            · have e := accErr_bad (p := p) hlt (by cases hv' : good p l i with | false => rfl | true => exact absurd ((gi.1 hv').2.2.resolve_left c3) (by omega))
              simp (config := {maxSteps := 2000000, implicitDefEqProofs := false}) only [go_sem, ↓reduceIte, Nat.reduceEqDiff, Nat.reduceAdd, Nat.reduceMul, Nat.reduceLeDiff, Nat.reduceLT, Nat.reduceSub, IntWalk.iteOmega, IntWalk.toNatUp, reduceCtorEq, false_and, and_false, false_or, or_false, true_or, or_true, not_true_eq_false, not_false_eq_true, Bool.not_true, Bool.not_false, Bool.and_true, Bool.true_and, Bool.and_false, Bool.false_and, Bool.not_eq_true, beq_self_eq_true, Nat.add_zero, Int.reduceLE, Int.reduceLT, Int.reduceToNat, Int.reduceNeg, c2, f1, f3, i0, i1, rl, rv, q0, q1', q2', c4, e]
              exact ⟨b2', hB2⟩
            · simp (config := {maxSteps := 2000000, implicitDefEqProofs := false}) only [go_sem, ↓reduceIte, Nat.reduceEqDiff, Nat.reduceAdd, Nat.reduceMul, Nat.reduceLeDiff, Nat.reduceLT, Nat.reduceSub, IntWalk.iteOmega, IntWalk.toNatUp, reduceCtorEq, false_and, and_false, false_or, or_false, true_or, or_true, not_true_eq_false, not_false_eq_true, Bool.not_true, Bool.not_false, Bool.and_true, Bool.true_and, Bool.and_false, Bool.false_and, Bool.not_eq_true, beq_self_eq_true, Nat.add_zero, Int.reduceLE, Int.reduceLT, Int.reduceToNat, Int.reduceNeg, c2, f1, f3, i0, i1, rl, rv, q0, q1', q2', c4]
              refine ⟨b2', ⟨hg2, f1, i + 1, by omega, rfl, fun j hj => ?_⟩, ?_⟩
              · by_cases hji : j = i
                · subst hji; exact gi.2 ⟨c1, c2, .inr (by omega)⟩
                · exact hall j (by omega)
              · simp only [vi, updo_some, ↓reduceIte, f3]; omega
      · have e := accErr_bad (p := p) hlt (by cases hv' : good p l i with | false => rfl | true => exact absurd (gi.1 hv').1 c1)
        simp (config := {maxSteps := 2000000, implicitDefEqProofs := false}) only [go_sem, ↓reduceIte, Nat.reduceEqDiff, Nat.reduceAdd, Nat.reduceMul, Nat.reduceLeDiff, Nat.reduceLT, Nat.reduceSub, IntWalk.iteOmega, IntWalk.toNatUp, reduceCtorEq, false_and, and_false, false_or, or_false, true_or, or_true, not_true_eq_false, not_false_eq_true, Bool.not_true, Bool.not_false, Bool.and_true, Bool.true_and, Bool.and_false, Bool.false_and, Bool.not_eq_true, beq_self_eq_true, Nat.add_zero, Int.reduceLE, Int.reduceLT, Int.reduceToNat, Int.reduceNeg, c1, e]
        exact ⟨b1', b1', hB1⟩
    · have hge : ¬ (i : Int) < l.length := by omega
      obtain rfl : i = l.length := by omega
      have e := accErr_good hnot hall
      simp (config := {maxSteps := 2000000, implicitDefEqProofs := false}) only [go_sem, ↓reduceIte, Nat.reduceEqDiff, Nat.reduceAdd, Nat.reduceMul, Nat.reduceLeDiff, Nat.reduceLT, Nat.reduceSub, IntWalk.iteOmega, IntWalk.toNatUp, reduceCtorEq, false_and, and_false, false_or, or_false, true_or, or_true, not_true_eq_false, not_false_eq_true, Bool.not_true, Bool.not_false, Bool.and_true, Bool.true_and, Bool.and_false, Bool.false_and, Bool.not_eq_true, beq_self_eq_true, Nat.add_zero, Int.reduceLE, Int.reduceLT, Int.reduceToNat, Int.reduceNeg, f1, f3, rv, hge, e, hBg]
  · by_cases z1 : p.r = 0
    · by_cases z2 : p.n = 0
      · have hnot : ¬ (¬ ballotMay p ∧ ¬ (p.r = 0 ∧ p.n = 0)) := fun h => h.2 ⟨z1, z2⟩
        rw [z1] at p0
        rw [z2] at p1
        simp (config := {maxSteps := 2000000, implicitDefEqProofs := false}) only [go_sem, ↓reduceIte, Nat.reduceEqDiff, Nat.reduceAdd, Nat.reduceMul, Nat.reduceLeDiff, Nat.reduceLT, Nat.reduceSub, IntWalk.iteOmega, IntWalk.toNatUp, reduceCtorEq, false_and, and_false, false_or, or_false, true_or, or_true, not_true_eq_false, not_false_eq_true, Bool.not_true, Bool.not_false, Bool.and_true, Bool.true_and, Bool.and_false, Bool.false_and, Bool.not_eq_true, beq_self_eq_true, Nat.add_zero, Int.reduceLE, Int.reduceLT, Int.reduceToNat, Int.reduceNeg, q, p0, p1]
        refine VS.loop' (fun F g => Bel H.size H g ∧ F 1 = .pointer (some ⟨h.size, 0, none⟩) ∧ ∃ i : Nat, i ≤ l.length ∧ F 3 = .int .i64 i ∧ ∀ j, j < i → good p l j = true)
          (fun F _ => l.length - (vi (F 3)).toNat) rfl ⟨Bel.refl _ _, rfl, 0, by omega, rfl, fun j hj => by omega⟩ ?_
        rintro F g ⟨hg, f1, i, hi, f3, hall⟩
        have hgs := hg.size
        have hBg : Bel h.size h g := hHb.trans (hg.mono (by omega))
        have rv : hc g ⟨h.size, 2, none⟩ = some (.slice pv l.length cv) := by rw [hg.hc (by exact hz), hc_last x0]; rfl
        by_cases hlt : i < l.length
        · have hlt' : (i : Int) < l.length := by omega
          obtain ⟨bb, oo, rfl, hbb, hcs0, hcs⟩ := hcs (by intro e; rw [e] at hlt; simp at hlt)
          have hbb1 : bb < H.size := by have := hHb.size; omega
          have hbg : bb < g.size := by omega
          have r1 : rd g ⟨bb, oo + i * 8, none⟩ 8 = some (voteC l[i]) := by
            rw [rd_bel hBg (by exact hbb)]; exact hcs i hlt
          have rp : rd g ⟨h.size, 0, none⟩ 2 = some [.int .i64 p.r, .int .i64 p.n] := by rw [rd_bel hg (by exact hz), rd_part x0 (by simp [accC])]; rfl
          have gi := good_iff (p := p) hlt
          have hlast : i ≠ 0 → hc g ⟨bb, oo + (i - 1) * 8, none⟩ = some (.int .i64 (slotAt l (i - 1))) := by
            intro h0
            have hj : i - 1 < l.length := by omega
            rw [slotAt_of hj, hBg.hc (by exact hbb)]
            exact hcs0 (i - 1) hj
          obtain ⟨v, hv⟩ : ∃ v, v = l[i] := ⟨_, rfl⟩
          rw [← hv] at r1 gi
          unfold voteC at r1
          simp (config := {maxSteps := 2000000, implicitDefEqProofs := false}) only [go_sem, ↓reduceIte, Nat.reduceEqDiff, Nat.reduceAdd, Nat.reduceMul, Nat.reduceLeDiff, Nat.reduceLT, Nat.reduceSub, IntWalk.iteOmega, IntWalk.toNatUp, reduceCtorEq, false_and, and_false, false_or, or_false, true_or, or_true, not_true_eq_false, not_false_eq_true, Bool.not_true, Bool.not_false, Bool.and_true, Bool.true_and, Bool.and_false, Bool.false_and, Bool.not_eq_true, beq_self_eq_true, Nat.add_zero, Int.reduceLE, Int.reduceLT, Int.reduceToNat, Int.reduceNeg, f1, f3, rv, hlt', r1]
          have hzg : h.size < g.size := by omega
          refine VS.w (g.size + 1) [] (.q 0 (.s 1 (.q 2 (.q 3 (.q 4 (.q 5 (.q 6 (.q 7 (.s 8 (.q 9 (.q 10 (.q 11 (.q 12 (.q 13 (.q 14 (.q 15 (.q 16 (.q 17 (.q 18 (.q 19 (.q 20 (.q 21 (.q 22 (.q 23 (.q 24 (.q 25 .nil)))))))))))))))))))))))))) mixed (by kernel_rfl) ?_
          have q0 : g.size < g.size + 1 := by omega
          simp (config := {maxSteps := 2000000, implicitDefEqProofs := false}) only [go_sem, ↓reduceIte, Nat.reduceEqDiff, Nat.reduceAdd, Nat.reduceMul, Nat.reduceLeDiff, Nat.reduceLT, Nat.reduceSub, IntWalk.iteOmega, IntWalk.toNatUp, reduceCtorEq, false_and, and_false, false_or, or_false, true_or, or_true, not_true_eq_false, not_false_eq_true, Bool.not_true, Bool.not_false, Bool.and_true, Bool.true_and, Bool.and_false, Bool.false_and, Bool.not_eq_true, beq_self_eq_true, Nat.add_zero, Int.reduceLE, Int.reduceLT, Int.reduceToNat, Int.reduceNeg, q0]
          refine (voteMay_ok T _ v).use ?_
          rintro _ g1 ⟨rfl, b1⟩
          have b1s := b1.size
          simp only [Array.size_push] at b1s
          have hgp : Bel g.size g g1 := (Bel.push (Nat.le_refl _) _).trans (b1.mono (by simp))
          have hB1 : Bel h.size h g1 := hBg.trans (hgp.mono (by omega))
          have hg1 : Bel H.size H g1 := hg.trans (hgp.mono (by omega))
          have b1' := b1
          rw [Array.size_push] at b1'
          have q1' : h.size < g.size + 1 := by omega
          have q2' : bb < g.size + 1 := by omega
          by_cases c1 : voteMay v
          · simp (config := {maxSteps := 2000000, implicitDefEqProofs := false}) only [go_sem, ↓reduceIte, Nat.reduceEqDiff, Nat.reduceAdd, Nat.reduceMul, Nat.reduceLeDiff, Nat.reduceLT, Nat.reduceSub, IntWalk.iteOmega, IntWalk.toNatUp, reduceCtorEq, false_and, and_false, false_or, or_false, true_or, or_true, not_true_eq_false, not_false_eq_true, Bool.not_true, Bool.not_false, Bool.and_true, Bool.true_and, Bool.and_false, Bool.false_and, Bool.not_eq_true, beq_self_eq_true, Nat.add_zero, Int.reduceLE, Int.reduceLT, Int.reduceToNat, Int.reduceNeg, c1, f1, rp, q0, q1']
            refine ⟨b1', ?_⟩
            refine (ballotBelow_ok T _ p v.b).use ?_
            rintro _ g2 ⟨rfl, b2⟩
            have hB2 : Bel h.size h g2 := hB1.trans (b2.mono (by have := hB1.size; omega))
            have hg2 : Bel H.size H g2 := hg1.trans (b2.mono (by have := hg1.size; omega))
            have b2' := b1'.trans (b2.mono (by omega))
            by_cases c2 : below p v.b
            · have e := accErr_bad (p := p) hlt (by cases hv' : good p l i with | false => rfl | true => exact absurd c2 (gi.1 hv').2.1)
              simp (config := {maxSteps := 2000000, implicitDefEqProofs := false}) only [go_sem, ↓reduceIte, Nat.reduceEqDiff, Nat.reduceAdd, Nat.reduceMul, Nat.reduceLeDiff, Nat.reduceLT, Nat.reduceSub, IntWalk.iteOmega, IntWalk.toNatUp, reduceCtorEq, false_and, and_false, false_or, or_false, true_or, or_true, not_true_eq_false, not_false_eq_true, Bool.not_true, Bool.not_false, Bool.and_true, Bool.true_and, Bool.and_false, Bool.false_and, Bool.not_eq_true, beq_self_eq_true, Nat.add_zero, Int.reduceLE, Int.reduceLT, Int.reduceToNat, Int.reduceNeg, c2, e]
              exact ⟨b2', hB2⟩
            · by_cases c3 : i = 0
              · subst c3
                have i0 : ¬ 0 < ((0 : Nat) : Int) := by decide
                simp (config := {maxSteps := 2000000, implicitDefEqProofs := false}) only [go_sem, ↓reduceIte, Nat.reduceEqDiff, Nat.reduceAdd, Nat.reduceMul, Nat.reduceLeDiff, Nat.reduceLT, Nat.reduceSub, IntWalk.iteOmega, IntWalk.toNatUp, reduceCtorEq, false_and, and_false, false_or, or_false, true_or, or_true, not_true_eq_false, not_false_eq_true, Bool.not_true, Bool.not_false, Bool.and_true, Bool.true_and, Bool.and_false, Bool.false_and, Bool.not_eq_true, beq_self_eq_true, Nat.add_zero, Int.reduceLE, Int.reduceLT, Int.reduceToNat, Int.reduceNeg, c2, f1, f3, i0]
                refine ⟨b2', ⟨hg2, f1, 1, by omega, rfl, fun j hj => ?_⟩, ?_⟩
                · obtain rfl : j = 0 := by omega
                  exact gi.2 ⟨c1, c2, .inl rfl⟩
                · simp only [vi, updo_some, ↓reduceIte, f3]; omega
              · have i0 : 0 < (i : Int) := by omega
                have rl := hlast c3
                have i1 : ((i : Int) - 1).toNat = i - 1 := by omega
                have i2 : 0 ≤ (i : Int) - 1 := by omega
                have i3 : (i : Int) - 1 < l.length := by omega
                have rv' := rv
                by_cases c4 : v.slot ≤ slotAt l (i - 1)
                · have e := accErr_bad (p := p) hlt (by cases hv' : good p l i with | false => rfl | true => exact absurd ((gi.1 hv').2.2.resolve_left c3) (by omega))
                  simp (config := {maxSteps := 2000000, implicitDefEqProofs := false}) only [go_sem, ↓reduceIte, Nat.reduceEqDiff, Nat.reduceAdd, Nat.reduceMul, Nat.reduceLeDiff, Nat.reduceLT, Nat.reduceSub, IntWalk.iteOmega, IntWalk.toNatUp, reduceCtorEq, false_and, and_false, false_or, or_false, true_or, or_true, not_true_eq_false, not_false_eq_true, Bool.not_true, Bool.not_false, Bool.and_true, Bool.true_and, Bool.and_false, Bool.false_and, Bool.not_eq_true, beq_self_eq_true, Nat.add_zero, Int.reduceLE, Int.reduceLT, Int.reduceToNat, Int.reduceNeg, c2, f1, f3, i0, i1, rl, rv, q0, q1', q2', c4, e]
                  exact ⟨b2', hB2⟩
                · simp (config := {maxSteps := 2000000, implicitDefEqProofs := false}) only [go_sem, ↓reduceIte, Nat.reduceEqDiff, Nat.reduceAdd, Nat.reduceMul, Nat.reduceLeDiff, Nat.reduceLT, Nat.reduceSub, IntWalk.iteOmega, IntWalk.toNatUp, reduceCtorEq, false_and, and_false, false_or, or_false, true_or, or_true, not_true_eq_false, not_false_eq_true, Bool.not_true, Bool.not_false, Bool.and_true, Bool.true_and, Bool.and_false, Bool.false_and, Bool.not_eq_true, beq_self_eq_true, Nat.add_zero, Int.reduceLE, Int.reduceLT, Int.reduceToNat, Int.reduceNeg, c2, f1, f3, i0, i1, rl, rv, q0, q1', q2', c4]
                  refine ⟨b2', ⟨hg2, f1, i + 1, by omega, rfl, fun j hj => ?_⟩, ?_⟩
                  · by_cases hji : j = i
                    · subst hji; exact gi.2 ⟨c1, c2, .inr (by omega)⟩
                    · exact hall j (by omega)
                  · simp only [vi, updo_some, ↓reduceIte, f3]; omega
          · have e := accErr_bad (p := p) hlt (by cases hv' : good p l i with | false => rfl | true => exact absurd (gi.1 hv').1 c1)
            simp (config := {maxSteps := 2000000, implicitDefEqProofs := false}) only [go_sem, ↓reduceIte, Nat.reduceEqDiff, Nat.reduceAdd, Nat.reduceMul, Nat.reduceLeDiff, Nat.reduceLT, Nat.reduceSub, IntWalk.iteOmega, IntWalk.toNatUp, reduceCtorEq, false_and, and_false, false_or, or_false, true_or, or_true, not_true_eq_false, not_false_eq_true, Bool.not_true, Bool.not_false, Bool.and_true, Bool.true_and, Bool.and_false, Bool.false_and, Bool.not_eq_true, beq_self_eq_true, Nat.add_zero, Int.reduceLE, Int.reduceLT, Int.reduceToNat, Int.reduceNeg, c1, e]
            exact ⟨b1', b1', hB1⟩
        · have hge : ¬ (i : Int) < l.length := by omega
          obtain rfl : i = l.length := by omega
          have e := accErr_good hnot hall
          simp (config := {maxSteps := 2000000, implicitDefEqProofs := false}) only [go_sem, ↓reduceIte, Nat.reduceEqDiff, Nat.reduceAdd, Nat.reduceMul, Nat.reduceLeDiff, Nat.reduceLT, Nat.reduceSub, IntWalk.iteOmega, IntWalk.toNatUp, reduceCtorEq, false_and, and_false, false_or, or_false, true_or, or_true, not_true_eq_false, not_false_eq_true, Bool.not_true, Bool.not_false, Bool.and_true, Bool.true_and, Bool.and_false, Bool.false_and, Bool.not_eq_true, beq_self_eq_true, Nat.add_zero, Int.reduceLE, Int.reduceLT, Int.reduceToNat, Int.reduceNeg, f1, f3, rv, hge, e, hBg]
      · have e : accErr p l = 5 := by unfold accErr; rw [if_pos ⟨q, fun h => z2 h.2⟩]
        rw [z1] at p0
        simp (config := {maxSteps := 2000000, implicitDefEqProofs := false}) only [go_sem, ↓reduceIte, Nat.reduceEqDiff, Nat.reduceAdd, Nat.reduceMul, Nat.reduceLeDiff, Nat.reduceLT, Nat.reduceSub, IntWalk.iteOmega, IntWalk.toNatUp, reduceCtorEq, false_and, and_false, false_or, or_false, true_or, or_true, not_true_eq_false, not_false_eq_true, Bool.not_true, Bool.not_false, Bool.and_true, Bool.true_and, Bool.and_false, Bool.false_and, Bool.not_eq_true, beq_self_eq_true, Nat.add_zero, Int.reduceLE, Int.reduceLT, Int.reduceToNat, Int.reduceNeg, q, p0, p1, z2, e, hHb]
    · have e : accErr p l = 5 := by unfold accErr; rw [if_pos ⟨q, fun h => z1 h.1⟩]
      simp (config := {maxSteps := 2000000, implicitDefEqProofs := false}) only [go_sem, ↓reduceIte, Nat.reduceEqDiff, Nat.reduceAdd, Nat.reduceMul, Nat.reduceLeDiff, Nat.reduceLT, Nat.reduceSub, IntWalk.iteOmega, IntWalk.toNatUp, reduceCtorEq, false_and, and_false, false_or, or_false, true_or, or_true, not_true_eq_false, not_false_eq_true, Bool.not_true, Bool.not_false, Bool.and_true, Bool.true_and, Bool.and_false, Bool.false_and, Bool.not_eq_true, beq_self_eq_true, Nat.add_zero, Int.reduceLE, Int.reduceLT, Int.reduceToNat, Int.reduceNeg, q, p0, z1, e, hHb]
theorem fit_votes {h : Hp} {k : Nat} {v : Value} (hf : fit Tryd.prog h k 83 [v]) : ∃ l : List Vt, Ts voteC 8 h v l ∧ l.length ≤ 2199023255552 := by
  obtain ⟨l, h1, _, h3⟩ := fit_slice (α := Vt) (enc := voteC) (n := 8) (ok := fun _ => True) Tryd.underlying83 (by kernel_rfl) (by decide) (fun _ => rfl) (fun k ds hfe => by
    obtain ⟨ds, rfl⟩ : ∃ ds', ds = ds' := ⟨_, rfl⟩
    have hlen : ds.length = 8 := by
      cases k with
      | zero => exact hfe.elim
      | succ k => unfold fit at hfe; rw [Tryd.underlying80] at hfe; exact hfe.1
    have hL := fit_leaf (P := Tryd.prog) (h := h) 8 k 80 ds (rep 8 [3]) (by kernel_rfl) hlen hfe
    obtain ⟨a0, _, rfl, _, _, hL⟩ := fitL_int Tryd.underlying3 hL
    obtain ⟨a1, _, rfl, _, _, hL⟩ := fitL_int Tryd.underlying3 hL
    obtain ⟨a2, _, rfl, _, _, hL⟩ := fitL_int Tryd.underlying3 hL
    obtain ⟨a3, _, rfl, _, _, hL⟩ := fitL_int Tryd.underlying3 hL
    obtain ⟨a4, _, rfl, _, _, hL⟩ := fitL_int Tryd.underlying3 hL
    obtain ⟨a5, _, rfl, _, _, hL⟩ := fitL_int Tryd.underlying3 hL
    obtain ⟨a6, _, rfl, _, _, hL⟩ := fitL_int Tryd.underlying3 hL
    obtain ⟨a7, _, rfl, _, _, hL⟩ := fitL_int Tryd.underlying3 hL
    obtain rfl := fitL_nil hL
    exact ⟨⟨a0, ⟨a1, a2⟩, a3, a4, a5, a6, a7⟩, trivial, rfl⟩) hf
  refine ⟨l, ⟨h1⟩, ?_⟩
  have : Tryd.prog.bytesOf 80 = 64 := by kernel_rfl
  rw [this] at h3
  omega
end Go.Proofs.YtnpacofabdgcdaaDoor
namespace Go.Proofs.YtnpacofabdgcdaaDoor
open Go Go.V
set_option linter.unusedSimpArgs false
set_option linter.unusedVariables false
set_option maxRecDepth 100000
theorem cloneVotes_ok (T : World) (h : Hp) (u : Value) (l : List Vt) (s : Ts voteC 8 h u l) (hl : l.length ≤ 2199023255552) :
    CallsH Tryd.prog T 129 #[u] h fun v' h' => Ots h.size 80 voteC 8 h' v' l ∧ Bel h.size h h' := by
  obtain ⟨p, c, rfl, hc1⟩ := votes_open s
  refine CallsH.of_code' (args := [_]) Tryd.func129 rfl rfl rfl rfl ?_
  cases p with
  | none =>
    have : l = [] := by
      cases l with
      | nil => rfl
      | cons x l => obtain ⟨b, o, hp, _⟩ := hc1 (by simp); cases hp
    subst this
    simp (config := {maxSteps := 2000000, implicitDefEqProofs := false}) only [go_sem, ↓reduceIte, Nat.reduceEqDiff, Nat.reduceAdd, Nat.reduceMul, Nat.reduceLeDiff, Nat.reduceLT, Nat.reduceSub, IntWalk.iteOmega, IntWalk.toNatUp, reduceCtorEq, false_and, and_false, false_or, or_false, true_or, or_true, not_true_eq_false, not_false_eq_true, Bool.not_true, Bool.not_false, Bool.and_true, Bool.true_and, Bool.and_false, Bool.false_and, Bool.not_eq_true, beq_self_eq_true, Nat.add_zero, Int.reduceLE, Int.reduceLT, Int.reduceToNat, Int.reduceNeg]
    exact Ots.nil _ _ _ _ _
  | some a =>
    simp (config := {maxSteps := 2000000, implicitDefEqProofs := false}) only [go_sem, ↓reduceIte, Nat.reduceEqDiff, Nat.reduceAdd, Nat.reduceMul, Nat.reduceLeDiff, Nat.reduceLT, Nat.reduceSub, IntWalk.iteOmega, IntWalk.toNatUp, reduceCtorEq, false_and, and_false, false_or, or_false, true_or, or_true, not_true_eq_false, not_false_eq_true, Bool.not_true, Bool.not_false, Bool.and_true, Bool.true_and, Bool.and_false, Bool.false_and, Bool.not_eq_true, beq_self_eq_true, Nat.add_zero, Int.reduceLE, Int.reduceLT, Int.reduceToNat, Int.reduceNeg]
    refine append_ts (E := 80) (B := h.size) (n := 8) (bytes := 64) tsl83 Tryd.underlying83 tn80 tz80 rfl tb80 (fun _ => rfl) (Ots.nil' _ _ voteC 8 _ _) (by simp) (s.bel (Bel.push (Nat.le_refl _) _)) (by simp; omega) (by omega) ?_
    intro v' h' ho hb _
    simp (config := {maxSteps := 2000000, implicitDefEqProofs := false}) only [go_sem, ↓reduceIte, Nat.reduceEqDiff, Nat.reduceAdd, Nat.reduceMul, Nat.reduceLeDiff, Nat.reduceLT, Nat.reduceSub, IntWalk.iteOmega, IntWalk.toNatUp, reduceCtorEq, false_and, and_false, false_or, or_false, true_or, or_true, not_true_eq_false, not_false_eq_true, Bool.not_true, Bool.not_false, Bool.and_true, Bool.true_and, Bool.and_false, Bool.false_and, Bool.not_eq_true, beq_self_eq_true, Nat.add_zero, Int.reduceLE, Int.reduceLT, Int.reduceToNat, Int.reduceNeg]
    exact ⟨by simpa using ho, (Bel.push (Nat.le_refl _) _).trans hb⟩
theorem votesCopy_ok (T : World) (h : Hp) (u : Value) (l : List Vt) (s : Ts voteC 8 h u l) (hl : l.length ≤ 2199023255552) :
    CallsH Tryd.prog T 180 #[u] h fun v' h' => Ots h.size 80 voteC 8 h' v' l ∧ Bel h.size h h' := by
  obtain ⟨p, c, rfl, hc1⟩ := votes_open s
  refine CallsH.of_code' (args := [_]) Tryd.func180 rfl rfl rfl rfl ?_
  simp (config := {maxSteps := 2000000, implicitDefEqProofs := false}) only [go_sem, ↓reduceIte, Nat.reduceEqDiff, Nat.reduceAdd, Nat.reduceMul, Nat.reduceLeDiff, Nat.reduceLT, Nat.reduceSub, IntWalk.iteOmega, IntWalk.toNatUp, reduceCtorEq, false_and, and_false, false_or, or_false, true_or, or_true, not_true_eq_false, not_false_eq_true, Bool.not_true, Bool.not_false, Bool.and_true, Bool.true_and, Bool.and_false, Bool.false_and, Bool.not_eq_true, beq_self_eq_true, Nat.add_zero, Int.reduceLE, Int.reduceLT, Int.reduceToNat, Int.reduceNeg]
  refine VS.loop' (fun F g => Bel h.size h g ∧ F 0 = .slice p l.length c ∧ ∃ i : Nat, i ≤ l.length ∧ F 4 = .int .i64 i ∧ Ots h.size 80 voteC 8 g (F 3) (l.take i))
    (fun F _ => l.length - (vi (F 4)).toNat) rfl ⟨Bel.refl _ _, rfl, 0, by omega, rfl, Ots.nil _ _ _ _ _⟩ ?_
  rintro F g ⟨hg, f0, i, hi, f4, ho⟩
  by_cases hlt : i < l.length
  · have hlt' : (i : Int) < l.length := by omega
    obtain ⟨bb, oo, rfl, hbb, _, hcs⟩ := hc1 (by intro e; rw [e] at hlt; simp at hlt)
    have r1 : rd g ⟨bb, oo + i * 8, none⟩ 8 = some (voteC l[i]) := by rw [rd_bel hg (by exact hbb)]; exact hcs i hlt
    have hone := Ts.one (E := 80) (h := g) (enc := voteC) (n := 8) l[i] (fun _ => rfl) 1
    unfold voteC at r1
    have hgs := hg.size
    simp (config := {maxSteps := 2000000, implicitDefEqProofs := false}) only [go_sem, ↓reduceIte, Nat.reduceEqDiff, Nat.reduceAdd, Nat.reduceMul, Nat.reduceLeDiff, Nat.reduceLT, Nat.reduceSub, IntWalk.iteOmega, IntWalk.toNatUp, reduceCtorEq, false_and, and_false, false_or, or_false, true_or, or_true, not_true_eq_false, not_false_eq_true, Bool.not_true, Bool.not_false, Bool.and_true, Bool.true_and, Bool.and_false, Bool.false_and, Bool.not_eq_true, beq_self_eq_true, Nat.add_zero, Int.reduceLE, Int.reduceLT, Int.reduceToNat, Int.reduceNeg, f0, f4, hlt', r1]
    refine append_ts (E := 80) (B := h.size) (n := 8) (bytes := 64) tsl83 Tryd.underlying83 tn80 tz80 rfl tb80 (fun _ => rfl) (ho.push _) (by simp; omega) hone (by simp only [List.length_take, List.length_singleton]; omega) (by omega) ?_
    intro v' h' ho' hb' _
    simp (config := {maxSteps := 2000000, implicitDefEqProofs := false}) only [go_sem, ↓reduceIte, Nat.reduceEqDiff, Nat.reduceAdd, Nat.reduceMul, Nat.reduceLeDiff, Nat.reduceLT, Nat.reduceSub, IntWalk.iteOmega, IntWalk.toNatUp, reduceCtorEq, false_and, and_false, false_or, or_false, true_or, or_true, not_true_eq_false, not_false_eq_true, Bool.not_true, Bool.not_false, Bool.and_true, Bool.true_and, Bool.and_false, Bool.false_and, Bool.not_eq_true, beq_self_eq_true, Nat.add_zero, Int.reduceLE, Int.reduceLT, Int.reduceToNat, Int.reduceNeg, f0, f4]
    refine ⟨⟨(hg.addP hgs _).trans hb', f0, i + 1, by omega, rfl, ?_⟩, ?_⟩
    · rw [take_snoc l i hlt]; exact ho'
    · simp only [vi, updo_some, ↓reduceIte, f4]; omega
  · have hge : ¬ (i : Int) < l.length := by omega
    obtain rfl : i = l.length := by omega
    rw [List.take_length] at ho
    simp (config := {maxSteps := 2000000, implicitDefEqProofs := false}) only [go_sem, ↓reduceIte, Nat.reduceEqDiff, Nat.reduceAdd, Nat.reduceMul, Nat.reduceLeDiff, Nat.reduceLT, Nat.reduceSub, IntWalk.iteOmega, IntWalk.toNatUp, reduceCtorEq, false_and, and_false, false_or, or_false, true_or, or_true, not_true_eq_false, not_false_eq_true, Bool.not_true, Bool.not_false, Bool.and_true, Bool.true_and, Bool.and_false, Bool.false_and, Bool.not_eq_true, beq_self_eq_true, Nat.add_zero, Int.reduceLE, Int.reduceLT, Int.reduceToNat, Int.reduceNeg, f0, f4, hge]
    exact ⟨ho, hg⟩
def voteK : List (Option IntKind) := rep 8 [some .i64]
theorem sameVotes_eq (T : World) (h : Hp) (u w : Value) (l : List Vt) (s : Ts voteC 8 h u l) (t : Ts voteC 8 h w l) (hl : l.length ≤ 2199023255552) :
    CallsH Tryd.prog T 108 #[u, w] h fun v' h' => v' = .bool true ∧ h' = h := by
  obtain ⟨p, c, rfl, hc1⟩ := votes_open s
  obtain ⟨q, d, rfl, hc2⟩ := votes_open t
  refine CallsH.of_code' (args := [_, _]) Tryd.func108 rfl rfl rfl rfl ?_
  simp (config := {maxSteps := 2000000, implicitDefEqProofs := false}) only [go_sem, ↓reduceIte, Nat.reduceEqDiff, Nat.reduceAdd, Nat.reduceMul, Nat.reduceLeDiff, Nat.reduceLT, Nat.reduceSub, IntWalk.iteOmega, IntWalk.toNatUp, reduceCtorEq, false_and, and_false, false_or, or_false, true_or, or_true, not_true_eq_false, not_false_eq_true, Bool.not_true, Bool.not_false, Bool.and_true, Bool.true_and, Bool.and_false, Bool.false_and, Bool.not_eq_true, beq_self_eq_true, Nat.add_zero, Int.reduceLE, Int.reduceLT, Int.reduceToNat, Int.reduceNeg]
  refine VS.loop' (fun F g => g = h ∧ F 0 = .slice p l.length c ∧ F 1 = .slice q l.length d ∧ ∃ i : Nat, i ≤ l.length ∧ F 5 = .int .i64 i)
    (fun F _ => l.length - (vi (F 5)).toNat) rfl ⟨rfl, rfl, rfl, 0, by omega, rfl⟩ ?_
  rintro F g ⟨rfl, f0, f1, i, hi, f5⟩
  by_cases hlt : i < l.length
  · have hlt' : (i : Int) < l.length := by omega
    have hne : l ≠ [] := by intro e; rw [e] at hlt; simp at hlt
    obtain ⟨bb, oo, rfl, hbb, _, hcs⟩ := hc1 hne
    obtain ⟨b2, o2, rfl, hb2, _, hcs2⟩ := hc2 hne
    have r1 := hcs i hlt
    have r2 := hcs2 i hlt
    unfold voteC at r1 r2
    simp (config := {maxSteps := 2000000, implicitDefEqProofs := false}) only [go_sem, ↓reduceIte, Nat.reduceEqDiff, Nat.reduceAdd, Nat.reduceMul, Nat.reduceLeDiff, Nat.reduceLT, Nat.reduceSub, IntWalk.iteOmega, IntWalk.toNatUp, reduceCtorEq, false_and, and_false, false_or, or_false, true_or, or_true, not_true_eq_false, not_false_eq_true, Bool.not_true, Bool.not_false, Bool.and_true, Bool.true_and, Bool.and_false, Bool.false_and, Bool.not_eq_true, beq_self_eq_true, Nat.add_zero, Int.reduceLE, Int.reduceLT, Int.reduceToNat, Int.reduceNeg, f0, f1, f5, hlt']
    refine VS.q mixed (by kernel_rfl) ?_
    simp (config := {maxSteps := 2000000, implicitDefEqProofs := false}) only [go_sem, ↓reduceIte, Nat.reduceEqDiff, Nat.reduceAdd, Nat.reduceMul, Nat.reduceLeDiff, Nat.reduceLT, Nat.reduceSub, IntWalk.iteOmega, IntWalk.toNatUp, reduceCtorEq, false_and, and_false, false_or, or_false, true_or, or_true, not_true_eq_false, not_false_eq_true, Bool.not_true, Bool.not_false, Bool.and_true, Bool.true_and, Bool.and_false, Bool.false_and, Bool.not_eq_true, beq_self_eq_true, Nat.add_zero, Int.reduceLE, Int.reduceLT, Int.reduceToNat, Int.reduceNeg, f0, f1, f5, r1, r2]
    refine ⟨⟨rfl, f0, f1, i + 1, by omega, rfl⟩, ?_⟩
    simp only [vi, updo_some, ↓reduceIte, f5]; omega
  · have hge : ¬ (i : Int) < l.length := by omega
    simp (config := {maxSteps := 2000000, implicitDefEqProofs := false}) only [go_sem, ↓reduceIte, Nat.reduceEqDiff, Nat.reduceAdd, Nat.reduceMul, Nat.reduceLeDiff, Nat.reduceLT, Nat.reduceSub, IntWalk.iteOmega, IntWalk.toNatUp, reduceCtorEq, false_and, and_false, false_or, or_false, true_or, or_true, not_true_eq_false, not_false_eq_true, Bool.not_true, Bool.not_false, Bool.and_true, Bool.true_and, Bool.and_false, Bool.false_and, Bool.not_eq_true, beq_self_eq_true, Nat.add_zero, Int.reduceLE, Int.reduceLT, Int.reduceToNat, Int.reduceNeg, f0, f5, hge]
theorem sameAcceptor_eq (T : World) (h : Hp) (p : Bal) (u w : Value) (l : List Vt) (s : Ts voteC 8 h u l) (t : Ts voteC 8 h w l) (hl : l.length ≤ 2199023255552) :
    CallsH Tryd.prog T 58 #[.agg (accC p u).toArray, .agg (accC p w).toArray] h fun v' h' => v' = .bool true ∧ Bel h.size h h' := by
  obtain ⟨pu, c, rfl, hc1⟩ := votes_open s
  obtain ⟨q, d, rfl, hc2⟩ := votes_open t
  refine CallsH.of_code' (args := [_, _]) Tryd.func58 rfl rfl rfl rfl ?_
  unfold accC
  simp (config := {maxSteps := 2000000, implicitDefEqProofs := false}) only [go_sem, ↓reduceIte, Nat.reduceEqDiff, Nat.reduceAdd, Nat.reduceMul, Nat.reduceLeDiff, Nat.reduceLT, Nat.reduceSub, IntWalk.iteOmega, IntWalk.toNatUp, reduceCtorEq, false_and, and_false, false_or, or_false, true_or, or_true, not_true_eq_false, not_false_eq_true, Bool.not_true, Bool.not_false, Bool.and_true, Bool.true_and, Bool.and_false, Bool.false_and, Bool.not_eq_true, beq_self_eq_true, Nat.add_zero, Int.reduceLE, Int.reduceLT, Int.reduceToNat, Int.reduceNeg]
  refine (sameVotes_eq T _ _ _ l (s.bel ((Bel.refl h.size h).add _ |>.add _)) (t.bel ((Bel.refl h.size h).add _ |>.add _)) hl).pure ?_
  simp (config := {maxSteps := 2000000, implicitDefEqProofs := false}) only [go_sem, ↓reduceIte, Nat.reduceEqDiff, Nat.reduceAdd, Nat.reduceMul, Nat.reduceLeDiff, Nat.reduceLT, Nat.reduceSub, IntWalk.iteOmega, IntWalk.toNatUp, reduceCtorEq, false_and, and_false, false_or, or_false, true_or, or_true, not_true_eq_false, not_false_eq_true, Bool.not_true, Bool.not_false, Bool.and_true, Bool.true_and, Bool.and_false, Bool.false_and, Bool.not_eq_true, beq_self_eq_true, Nat.add_zero, Int.reduceLE, Int.reduceLT, Int.reduceToNat, Int.reduceNeg]
def prErr (p : Bal) (l : List Vt) (b : Bal) : Int := if accErr p l ≠ 0 then 5 else if ¬ ballotMay b then 2 else if below b p then 7 else 0
theorem accErr_five (p : Bal) (l : List Vt) : accErr p l = 0 ∨ accErr p l = 5 := by
  unfold accErr
  repeat' split
  all_goals simp
def PrRes (B : Nat) (h' : Hp) (v' : Value) (p : Bal) (l : List Vt) (b : Bal) : Prop := ∃ w1 w2, v' = .tuple [.agg (accC (if prErr p l b = 0 then b else ⟨0, 0⟩) w1).toArray, w2, .int .i64 (prErr p l b)].toArray ∧
  Ots B 80 voteC 8 h' w1 (if prErr p l b = 0 then l else []) ∧ Ots B 80 voteC 8 h' w2 (if prErr p l b = 0 then l else [])
theorem promise_ok (T : World) (h : Hp) (p : Bal) (u : Value) (l : List Vt) (b : Bal) (s : Ts voteC 8 h u l) (hl : l.length ≤ 2199023255552) :
    CallsH Tryd.prog T 89 #[.agg (accC p u).toArray, .agg (balC b).toArray] h fun v' h' => PrRes h.size h' v' p l b ∧ Bel h.size h h' := by
  obtain ⟨pu, cu, rfl, hc1⟩ := votes_open s
  refine CallsH.of_code2 (args := [_, _]) Tryd.func89 rfl rfl rfl rfl ?_
  unfold accC balC
  simp (config := {maxSteps := 2000000, implicitDefEqProofs := false}) only [go_sem, ↓reduceIte, Nat.reduceEqDiff, Nat.reduceAdd, Nat.reduceMul, Nat.reduceLeDiff, Nat.reduceLT, Nat.reduceSub, IntWalk.iteOmega, IntWalk.toNatUp, reduceCtorEq, false_and, and_false, false_or, or_false, true_or, or_true, not_true_eq_false, not_false_eq_true, Bool.not_true, Bool.not_false, Bool.and_true, Bool.true_and, Bool.and_false, Bool.false_and, Bool.not_eq_true, beq_self_eq_true, Nat.add_zero, Int.reduceLE, Int.reduceLT, Int.reduceToNat, Int.reduceNeg]
  have hpush : Bel h.size h ((((h.push (.cells [.int .i64 p.r, .int .i64 p.n, .slice pu l.length cu].toArray 85)).push (.cells [.int .i64 b.r, .int .i64 b.n].toArray 67)).push (.cells [.int .i64 0, .int .i64 0, .slice none 0 0].toArray 85))) := by (repeat' (first | exact Bel.refl _ _ | assumption | refine Bel.add ?_ _ | refine Bel.addSet ?_ (by first | omega | (simp; omega)) _ | refine Bel.trans (by assumption) ?_))
  refine (paxosCheck_ok T _ p _ l (s.bel hpush) (by omega)).use ?_
  rintro _ g1 ⟨rfl, b1⟩
  have x0 : g1[h.size]? = some (.cells (accC p (.slice pu l.length cu)).toArray 85) := b1.get (by simp only [Array.size_push]; omega) (by simp only [Array.getElem?_push, Array.size_push, IntWalk.iteOmega, ↓reduceIte, accC])
  have x1 : g1[h.size + 1]? = some (.cells [.int .i64 b.r, .int .i64 b.n].toArray 67) := b1.get (by simp only [Array.size_push]; omega) (by simp only [Array.getElem?_push, Array.size_push, IntWalk.iteOmega, ↓reduceIte])
  have x2 : g1[h.size + 2]? = some (.cells [.int .i64 0, .int .i64 0, .slice none 0 0].toArray 85) := b1.get (by simp only [Array.size_push]; omega) (by simp only [Array.getElem?_push, Array.size_push, IntWalk.iteOmega, ↓reduceIte])
  have hB1 : Bel h.size h g1 := hpush.trans (b1.mono (by simp; omega))
  have z1 := lt_of_get x2
  clear b1 hpush
  have fin : ∀ (G : Hp) (w : List Value), w.length = 3 → w.all oneC = true → G[h.size + 2]? = some (.cells [.int .i64 0, .int .i64 0, .slice none 0 0].toArray 85) → wr G ⟨h.size + 1 + 1, 0, none⟩ w = some (G.setIfInBounds (h.size + 1 + 1) (.cells w.toArray 85)) := by
    intro G w h3 h1 hx
    rw [wr_get (b := h.size + 1 + 1) hx 0 w, lput_full (by rw [h3]; rfl), if_pos ⟨by rw [h3]; simp, h1⟩]
  unfold PrRes
  rcases accErr_five p l with e0 | e0
  · have r1 := rd_last x1 (n := 2) rfl
    simp (config := {maxSteps := 2000000, implicitDefEqProofs := false}) only [go_sem, ↓reduceIte, Nat.reduceEqDiff, Nat.reduceAdd, Nat.reduceMul, Nat.reduceLeDiff, Nat.reduceLT, Nat.reduceSub, IntWalk.iteOmega, IntWalk.toNatUp, reduceCtorEq, false_and, and_false, false_or, or_false, true_or, or_true, not_true_eq_false, not_false_eq_true, Bool.not_true, Bool.not_false, Bool.and_true, Bool.true_and, Bool.and_false, Bool.false_and, Bool.not_eq_true, beq_self_eq_true, Nat.add_zero, Int.reduceLE, Int.reduceLT, Int.reduceToNat, Int.reduceNeg, e0, r1]
    refine (ballot_ok T _ b).use ?_
    rintro _ _ ⟨rfl, rfl⟩
    by_cases q1 : ballotMay b
    · have rp : rd g1 ⟨h.size, 0, none⟩ 2 = some [.int .i64 p.r, .int .i64 p.n] := by rw [rd_part x0 (by simp [accC])]; rfl
      have z2 : h.size < g1.size := by omega
      have z3 : h.size + 1 < g1.size := by omega
      unfold balC
      simp (config := {maxSteps := 2000000, implicitDefEqProofs := false}) only [go_sem, ↓reduceIte, Nat.reduceEqDiff, Nat.reduceAdd, Nat.reduceMul, Nat.reduceLeDiff, Nat.reduceLT, Nat.reduceSub, IntWalk.iteOmega, IntWalk.toNatUp, reduceCtorEq, false_and, and_false, false_or, or_false, true_or, or_true, not_true_eq_false, not_false_eq_true, Bool.not_true, Bool.not_false, Bool.and_true, Bool.true_and, Bool.and_false, Bool.false_and, Bool.not_eq_true, beq_self_eq_true, Nat.add_zero, Int.reduceLE, Int.reduceLT, Int.reduceToNat, Int.reduceNeg, q1, r1, rp, z2, z3]
      refine (compare_ok T _ b p).use ?_
      rintro _ g2 ⟨rfl, b2⟩
      have hg12 : Bel g1.size g1 g2 := (Bel.push (Nat.le_refl _) _).trans (b2.mono (by simp))
      have x0' := hg12.get z2 x0
      have x1' := hg12.get z3 x1
      have x2' := hg12.get z1 x2
      have hB2 := hB1.trans (hg12.mono hB1.size)
      have z5 := lt_of_get x2'
      by_cases q2 : below b p
      · have e : prErr p l b = 7 := by unfold prErr; rw [if_neg (by rw [e0]; decide), if_neg (fun h => h q1), if_pos q2]
        have w2 := fin g2 [.int .i64 0, .int .i64 0, .slice none 0 0] rfl rfl x2'
        have c2' : bcmp b p < 0 := (bcmp_neg b p).2 q2
        simp (config := {maxSteps := 2000000, implicitDefEqProofs := false}) only [go_sem, ↓reduceIte, Nat.reduceEqDiff, Nat.reduceAdd, Nat.reduceMul, Nat.reduceLeDiff, Nat.reduceLT, Nat.reduceSub, IntWalk.iteOmega, IntWalk.toNatUp, reduceCtorEq, false_and, and_false, false_or, or_false, true_or, or_true, not_true_eq_false, not_false_eq_true, Bool.not_true, Bool.not_false, Bool.and_true, Bool.true_and, Bool.and_false, Bool.false_and, Bool.not_eq_true, beq_self_eq_true, Nat.add_zero, Int.reduceLE, Int.reduceLT, Int.reduceToNat, Int.reduceNeg, c2', e, w2, z5]
        refine ⟨⟨_, _, rfl, Ots.nil _ _ _ _ _, Ots.nil _ _ _ _ _⟩, ?_⟩
        exact hB2.addSet (by omega) _
      · have e : prErr p l b = 0 := by unfold prErr; rw [if_neg (by rw [e0]; decide), if_neg (fun h => h q1), if_neg q2]
        have r1' := rd_last x1' (n := 2) rfl
        have rv : hc g2 ⟨h.size, 2, none⟩ = some (.slice pu l.length cu) := by rw [hc_last x0']; rfl
        have c2' : ¬ bcmp b p < 0 := fun h => q2 ((bcmp_neg b p).1 h)
        simp (config := {maxSteps := 2000000, implicitDefEqProofs := false}) only [go_sem, ↓reduceIte, Nat.reduceEqDiff, Nat.reduceAdd, Nat.reduceMul, Nat.reduceLeDiff, Nat.reduceLT, Nat.reduceSub, IntWalk.iteOmega, IntWalk.toNatUp, reduceCtorEq, false_and, and_false, false_or, or_false, true_or, or_true, not_true_eq_false, not_false_eq_true, Bool.not_true, Bool.not_false, Bool.and_true, Bool.true_and, Bool.and_false, Bool.false_and, Bool.not_eq_true, beq_self_eq_true, Nat.add_zero, Int.reduceLE, Int.reduceLT, Int.reduceToNat, Int.reduceNeg, c2']
        refine VS.w (h.size + 2) [] (.q 0 (.q 1 (.q 2 (.q 5 (.q 6 (.s 3 (.q 4 (.s 7 (.s 8 (.q 9 (.q 10 .nil))))))))))) mixed (by kernel_rfl) ?_
        have z6 : h.size < h.size + 2 := by omega
        have z7 : h.size + 1 < h.size + 2 := by omega
        simp (config := {maxSteps := 2000000, implicitDefEqProofs := false}) only [go_sem, ↓reduceIte, Nat.reduceEqDiff, Nat.reduceAdd, Nat.reduceMul, Nat.reduceLeDiff, Nat.reduceLT, Nat.reduceSub, IntWalk.iteOmega, IntWalk.toNatUp, reduceCtorEq, false_and, and_false, false_or, or_false, true_or, or_true, not_true_eq_false, not_false_eq_true, Bool.not_true, Bool.not_false, Bool.and_true, Bool.true_and, Bool.and_false, Bool.false_and, Bool.not_eq_true, beq_self_eq_true, Nat.add_zero, Int.reduceLE, Int.reduceLT, Int.reduceToNat, Int.reduceNeg, r1', rv, z6, z7]
        refine (cloneVotes_ok T _ _ l (s.bel hB2) hl).use ?_
        rintro w1 g3 ⟨o1, b3⟩
        obtain ⟨p1, c1, rfl, _⟩ := o1.open
        have b3' : Bel (h.size + 2) g2 g3 := b3.mono (by omega)
        simp (config := {maxSteps := 2000000, implicitDefEqProofs := false}) only [go_sem, ↓reduceIte, Nat.reduceEqDiff, Nat.reduceAdd, Nat.reduceMul, Nat.reduceLeDiff, Nat.reduceLT, Nat.reduceSub, IntWalk.iteOmega, IntWalk.toNatUp, reduceCtorEq, false_and, and_false, false_or, or_false, true_or, or_true, not_true_eq_false, not_false_eq_true, Bool.not_true, Bool.not_false, Bool.and_true, Bool.true_and, Bool.and_false, Bool.false_and, Bool.not_eq_true, beq_self_eq_true, Nat.add_zero, Int.reduceLE, Int.reduceLT, Int.reduceToNat, Int.reduceNeg]
        refine ⟨b3', ?_⟩
        refine (cloneVotes_ok T _ _ l ((s.bel hB2).bel b3) hl).use ?_
        rintro w2 g4 ⟨o2, b4⟩
        have b3s := b3.size
        have b4s := b4.size
        have b4' : Bel (h.size + 2) g2 g4 := b3'.trans (b4.mono (by omega))
        have x2'' : g4[h.size + 2]? = some (.cells [.int .i64 0, .int .i64 0, .slice none 0 0].toArray 85) := b4.get (by omega) (b3.get z5 x2')
        have z8 := lt_of_get x2''
        have wf := fin g4 [.int .i64 b.r, .int .i64 b.n, .slice p1 l.length c1] rfl rfl x2''
        have hB4 := hB2.trans ((b3.trans (b4.mono b3s)).mono hB2.size)
        simp (config := {maxSteps := 2000000, implicitDefEqProofs := false}) only [go_sem, ↓reduceIte, Nat.reduceEqDiff, Nat.reduceAdd, Nat.reduceMul, Nat.reduceLeDiff, Nat.reduceLT, Nat.reduceSub, IntWalk.iteOmega, IntWalk.toNatUp, reduceCtorEq, false_and, and_false, false_or, or_false, true_or, or_true, not_true_eq_false, not_false_eq_true, Bool.not_true, Bool.not_false, Bool.and_true, Bool.true_and, Bool.and_false, Bool.false_and, Bool.not_eq_true, beq_self_eq_true, Nat.add_zero, Int.reduceLE, Int.reduceLT, Int.reduceToNat, Int.reduceNeg, e, wf, z8]
        refine ⟨b4', b4'.addSet (by omega) _, ⟨_, _, rfl, ?_, ?_⟩, ?_⟩
        · exact (((o1.bel b4 (Nat.le_refl _)).mono (B' := h.size + 1 + 1 + 1) (by omega)).setLow (by omega) _).mono (by omega)
        · exact ((o2.mono (B' := h.size + 1 + 1 + 1) (by omega)).setLow (by omega) _).mono (by omega)
        · exact hB4.addSet (by omega) _
    · have e : prErr p l b = 2 := by unfold prErr; rw [if_neg (by rw [e0]; decide), if_pos q1]
      have w2 := fin g1 [.int .i64 0, .int .i64 0, .slice none 0 0] rfl rfl x2
      simp (config := {maxSteps := 2000000, implicitDefEqProofs := false}) only [go_sem, ↓reduceIte, Nat.reduceEqDiff, Nat.reduceAdd, Nat.reduceMul, Nat.reduceLeDiff, Nat.reduceLT, Nat.reduceSub, IntWalk.iteOmega, IntWalk.toNatUp, reduceCtorEq, false_and, and_false, false_or, or_false, true_or, or_true, not_true_eq_false, not_false_eq_true, Bool.not_true, Bool.not_false, Bool.and_true, Bool.true_and, Bool.and_false, Bool.false_and, Bool.not_eq_true, beq_self_eq_true, Nat.add_zero, Int.reduceLE, Int.reduceLT, Int.reduceToNat, Int.reduceNeg, q1, e, w2, z1]
      exact ⟨⟨_, _, rfl, Ots.nil _ _ _ _ _, Ots.nil _ _ _ _ _⟩, (hB1.addSet (by omega) _).addP (by simp; omega) _⟩
  · have e : prErr p l b = 5 := by unfold prErr; rw [if_pos (by rw [e0]; decide)]
    have w2 := fin g1 [.int .i64 0, .int .i64 0, .slice none 0 0] rfl rfl x2
    simp (config := {maxSteps := 2000000, implicitDefEqProofs := false}) only [go_sem, ↓reduceIte, Nat.reduceEqDiff, Nat.reduceAdd, Nat.reduceMul, Nat.reduceLeDiff, Nat.reduceLT, Nat.reduceSub, IntWalk.iteOmega, IntWalk.toNatUp, reduceCtorEq, false_and, and_false, false_or, or_false, true_or, or_true, not_true_eq_false, not_false_eq_true, Bool.not_true, Bool.not_false, Bool.and_true, Bool.true_and, Bool.and_false, Bool.false_and, Bool.not_eq_true, beq_self_eq_true, Nat.add_zero, Int.reduceLE, Int.reduceLT, Int.reduceToNat, Int.reduceNeg, e0, e, w2, z1]
    exact ⟨⟨_, _, rfl, Ots.nil _ _ _ _ _, Ots.nil _ _ _ _ _⟩, hB1.addSet (by omega) _⟩
theorem promisedTo_ok (T : World) (h : Hp) (p : Bal) (u : Value) (l : List Vt) (b : Bal) (s : Ts voteC 8 h u l) (hl : l.length ≤ 2199023255552) :
    CallsH Tryd.prog T 144 #[.agg (accC p u).toArray, .agg (balC b).toArray] h fun v' h' => PrRes h.size h' v' p l b ∧ Bel h.size h h' := by
  obtain ⟨pu, cu, rfl, hc1⟩ := votes_open s
  refine CallsH.of_code2 (args := [_, _]) Tryd.func144 rfl rfl rfl rfl ?_
  unfold accC balC
  simp (config := {maxSteps := 2000000, implicitDefEqProofs := false}) only [go_sem, ↓reduceIte, Nat.reduceEqDiff, Nat.reduceAdd, Nat.reduceMul, Nat.reduceLeDiff, Nat.reduceLT, Nat.reduceSub, IntWalk.iteOmega, IntWalk.toNatUp, reduceCtorEq, false_and, and_false, false_or, or_false, true_or, or_true, not_true_eq_false, not_false_eq_true, Bool.not_true, Bool.not_false, Bool.and_true, Bool.true_and, Bool.and_false, Bool.false_and, Bool.not_eq_true, beq_self_eq_true, Nat.add_zero, Int.reduceLE, Int.reduceLT, Int.reduceToNat, Int.reduceNeg]
  have hpush : Bel h.size h ((((h.push (.cells [.int .i64 p.r, .int .i64 p.n, .slice pu l.length cu].toArray 85)).push (.cells [.int .i64 b.r, .int .i64 b.n].toArray 67)).push (.cells [.int .i64 0, .int .i64 0, .slice none 0 0].toArray 85))) := by (repeat' (first | exact Bel.refl _ _ | assumption | refine Bel.add ?_ _ | refine Bel.addSet ?_ (by first | omega | (simp; omega)) _ | refine Bel.trans (by assumption) ?_))
  refine (acceptorFault_ok T _ p _ l (s.bel hpush) (by omega)).use ?_
  rintro _ g1 ⟨rfl, b1⟩
  have x0 : g1[h.size]? = some (.cells (accC p (.slice pu l.length cu)).toArray 85) := b1.get (by simp only [Array.size_push]; omega) (by simp only [Array.getElem?_push, Array.size_push, IntWalk.iteOmega, ↓reduceIte, accC])
  have x1 : g1[h.size + 1]? = some (.cells [.int .i64 b.r, .int .i64 b.n].toArray 67) := b1.get (by simp only [Array.size_push]; omega) (by simp only [Array.getElem?_push, Array.size_push, IntWalk.iteOmega, ↓reduceIte])
  have x2 : g1[h.size + 2]? = some (.cells [.int .i64 0, .int .i64 0, .slice none 0 0].toArray 85) := b1.get (by simp only [Array.size_push]; omega) (by simp only [Array.getElem?_push, Array.size_push, IntWalk.iteOmega, ↓reduceIte])
  have hB1 : Bel h.size h g1 := hpush.trans (b1.mono (by simp; omega))
  have z1 := lt_of_get x2
  clear b1 hpush
  have fin : ∀ (G : Hp) (w : List Value), w.length = 3 → w.all oneC = true → G[h.size + 2]? = some (.cells [.int .i64 0, .int .i64 0, .slice none 0 0].toArray 85) → wr G ⟨h.size + 1 + 1, 0, none⟩ w = some (G.setIfInBounds (h.size + 1 + 1) (.cells w.toArray 85)) := by
    intro G w h3 h1 hx
    rw [wr_get (b := h.size + 1 + 1) hx 0 w, lput_full (by rw [h3]; rfl), if_pos ⟨by rw [h3]; simp, h1⟩]
  unfold PrRes
  rcases accErr_five p l with e0 | e0
  · have r1 := rd_last x1 (n := 2) rfl
    simp (config := {maxSteps := 2000000, implicitDefEqProofs := false}) only [go_sem, ↓reduceIte, Nat.reduceEqDiff, Nat.reduceAdd, Nat.reduceMul, Nat.reduceLeDiff, Nat.reduceLT, Nat.reduceSub, IntWalk.iteOmega, IntWalk.toNatUp, reduceCtorEq, false_and, and_false, false_or, or_false, true_or, or_true, not_true_eq_false, not_false_eq_true, Bool.not_true, Bool.not_false, Bool.and_true, Bool.true_and, Bool.and_false, Bool.false_and, Bool.not_eq_true, beq_self_eq_true, Nat.add_zero, Int.reduceLE, Int.reduceLT, Int.reduceToNat, Int.reduceNeg, e0, r1]
    refine (ballotMay_ok T _ b).use ?_
    rintro _ _ ⟨rfl, rfl⟩
    by_cases q1 : ballotMay b
    · have rp : rd g1 ⟨h.size, 0, none⟩ 2 = some [.int .i64 p.r, .int .i64 p.n] := by rw [rd_part x0 (by simp [accC])]; rfl
      have z2 : h.size < g1.size := by omega
      have z3 : h.size + 1 < g1.size := by omega
      unfold balC
      simp (config := {maxSteps := 2000000, implicitDefEqProofs := false}) only [go_sem, ↓reduceIte, Nat.reduceEqDiff, Nat.reduceAdd, Nat.reduceMul, Nat.reduceLeDiff, Nat.reduceLT, Nat.reduceSub, IntWalk.iteOmega, IntWalk.toNatUp, reduceCtorEq, false_and, and_false, false_or, or_false, true_or, or_true, not_true_eq_false, not_false_eq_true, Bool.not_true, Bool.not_false, Bool.and_true, Bool.true_and, Bool.and_false, Bool.false_and, Bool.not_eq_true, beq_self_eq_true, Nat.add_zero, Int.reduceLE, Int.reduceLT, Int.reduceToNat, Int.reduceNeg, q1, r1, rp, z2, z3]
      refine (ballotBelow_ok T _ b p).use ?_
      rintro _ g2 ⟨rfl, b2⟩
      have hg12 : Bel g1.size g1 g2 := (Bel.push (Nat.le_refl _) _).trans (b2.mono (by simp))
      have x0' := hg12.get z2 x0
      have x1' := hg12.get z3 x1
      have x2' := hg12.get z1 x2
      have hB2 := hB1.trans (hg12.mono hB1.size)
      have z5 := lt_of_get x2'
      by_cases q2 : below b p
      · have e : prErr p l b = 7 := by unfold prErr; rw [if_neg (by rw [e0]; decide), if_neg (fun h => h q1), if_pos q2]
        have w2 := fin g2 [.int .i64 0, .int .i64 0, .slice none 0 0] rfl rfl x2'
        simp (config := {maxSteps := 2000000, implicitDefEqProofs := false}) only [go_sem, ↓reduceIte, Nat.reduceEqDiff, Nat.reduceAdd, Nat.reduceMul, Nat.reduceLeDiff, Nat.reduceLT, Nat.reduceSub, IntWalk.iteOmega, IntWalk.toNatUp, reduceCtorEq, false_and, and_false, false_or, or_false, true_or, or_true, not_true_eq_false, not_false_eq_true, Bool.not_true, Bool.not_false, Bool.and_true, Bool.true_and, Bool.and_false, Bool.false_and, Bool.not_eq_true, beq_self_eq_true, Nat.add_zero, Int.reduceLE, Int.reduceLT, Int.reduceToNat, Int.reduceNeg, q2, e, w2, z5]
        refine ⟨⟨_, _, rfl, Ots.nil _ _ _ _ _, Ots.nil _ _ _ _ _⟩, ?_⟩
        exact hB2.addSet (by omega) _
      · have e : prErr p l b = 0 := by unfold prErr; rw [if_neg (by rw [e0]; decide), if_neg (fun h => h q1), if_neg q2]
        have r1' := rd_last x1' (n := 2) rfl
        have rv : hc g2 ⟨h.size, 2, none⟩ = some (.slice pu l.length cu) := by rw [hc_last x0']; rfl
        simp (config := {maxSteps := 2000000, implicitDefEqProofs := false}) only [go_sem, ↓reduceIte, Nat.reduceEqDiff, Nat.reduceAdd, Nat.reduceMul, Nat.reduceLeDiff, Nat.reduceLT, Nat.reduceSub, IntWalk.iteOmega, IntWalk.toNatUp, reduceCtorEq, false_and, and_false, false_or, or_false, true_or, or_true, not_true_eq_false, not_false_eq_true, Bool.not_true, Bool.not_false, Bool.and_true, Bool.true_and, Bool.and_false, Bool.false_and, Bool.not_eq_true, beq_self_eq_true, Nat.add_zero, Int.reduceLE, Int.reduceLT, Int.reduceToNat, Int.reduceNeg, q2]
        refine VS.w (h.size + 2) [] (.q 0 (.q 1 (.q 2 (.q 5 (.q 6 (.s 3 (.q 4 (.s 7 (.s 8 (.q 9 (.q 10 .nil))))))))))) mixed (by kernel_rfl) ?_
        have z6 : h.size < h.size + 2 := by omega
        have z7 : h.size + 1 < h.size + 2 := by omega
        simp (config := {maxSteps := 2000000, implicitDefEqProofs := false}) only [go_sem, ↓reduceIte, Nat.reduceEqDiff, Nat.reduceAdd, Nat.reduceMul, Nat.reduceLeDiff, Nat.reduceLT, Nat.reduceSub, IntWalk.iteOmega, IntWalk.toNatUp, reduceCtorEq, false_and, and_false, false_or, or_false, true_or, or_true, not_true_eq_false, not_false_eq_true, Bool.not_true, Bool.not_false, Bool.and_true, Bool.true_and, Bool.and_false, Bool.false_and, Bool.not_eq_true, beq_self_eq_true, Nat.add_zero, Int.reduceLE, Int.reduceLT, Int.reduceToNat, Int.reduceNeg, r1', rv, z6, z7]
        refine (votesCopy_ok T _ _ l (s.bel hB2) hl).use ?_
        rintro w1 g3 ⟨o1, b3⟩
        obtain ⟨p1, c1, rfl, _⟩ := o1.open
        have b3' : Bel (h.size + 2) g2 g3 := b3.mono (by omega)
        simp (config := {maxSteps := 2000000, implicitDefEqProofs := false}) only [go_sem, ↓reduceIte, Nat.reduceEqDiff, Nat.reduceAdd, Nat.reduceMul, Nat.reduceLeDiff, Nat.reduceLT, Nat.reduceSub, IntWalk.iteOmega, IntWalk.toNatUp, reduceCtorEq, false_and, and_false, false_or, or_false, true_or, or_true, not_true_eq_false, not_false_eq_true, Bool.not_true, Bool.not_false, Bool.and_true, Bool.true_and, Bool.and_false, Bool.false_and, Bool.not_eq_true, beq_self_eq_true, Nat.add_zero, Int.reduceLE, Int.reduceLT, Int.reduceToNat, Int.reduceNeg]
        refine ⟨b3', ?_⟩
        refine (votesCopy_ok T _ _ l ((s.bel hB2).bel b3) hl).use ?_
        rintro w2 g4 ⟨o2, b4⟩
        have b3s := b3.size
        have b4s := b4.size
        have b4' : Bel (h.size + 2) g2 g4 := b3'.trans (b4.mono (by omega))
        have x2'' : g4[h.size + 2]? = some (.cells [.int .i64 0, .int .i64 0, .slice none 0 0].toArray 85) := b4.get (by omega) (b3.get z5 x2')
        have z8 := lt_of_get x2''
        have wf := fin g4 [.int .i64 b.r, .int .i64 b.n, .slice p1 l.length c1] rfl rfl x2''
        have hB4 := hB2.trans ((b3.trans (b4.mono b3s)).mono hB2.size)
        simp (config := {maxSteps := 2000000, implicitDefEqProofs := false}) only [go_sem, ↓reduceIte, Nat.reduceEqDiff, Nat.reduceAdd, Nat.reduceMul, Nat.reduceLeDiff, Nat.reduceLT, Nat.reduceSub, IntWalk.iteOmega, IntWalk.toNatUp, reduceCtorEq, false_and, and_false, false_or, or_false, true_or, or_true, not_true_eq_false, not_false_eq_true, Bool.not_true, Bool.not_false, Bool.and_true, Bool.true_and, Bool.and_false, Bool.false_and, Bool.not_eq_true, beq_self_eq_true, Nat.add_zero, Int.reduceLE, Int.reduceLT, Int.reduceToNat, Int.reduceNeg, e, wf, z8]
        refine ⟨b4', b4'.addSet (by omega) _, ⟨_, _, rfl, ?_, ?_⟩, ?_⟩
        · exact (((o1.bel b4 (Nat.le_refl _)).mono (B' := h.size + 1 + 1 + 1) (by omega)).setLow (by omega) _).mono (by omega)
        · exact ((o2.mono (B' := h.size + 1 + 1 + 1) (by omega)).setLow (by omega) _).mono (by omega)
        · exact hB4.addSet (by omega) _
    · have e : prErr p l b = 2 := by unfold prErr; rw [if_neg (by rw [e0]; decide), if_pos q1]
      have w2 := fin g1 [.int .i64 0, .int .i64 0, .slice none 0 0] rfl rfl x2
      simp (config := {maxSteps := 2000000, implicitDefEqProofs := false}) only [go_sem, ↓reduceIte, Nat.reduceEqDiff, Nat.reduceAdd, Nat.reduceMul, Nat.reduceLeDiff, Nat.reduceLT, Nat.reduceSub, IntWalk.iteOmega, IntWalk.toNatUp, reduceCtorEq, false_and, and_false, false_or, or_false, true_or, or_true, not_true_eq_false, not_false_eq_true, Bool.not_true, Bool.not_false, Bool.and_true, Bool.true_and, Bool.and_false, Bool.false_and, Bool.not_eq_true, beq_self_eq_true, Nat.add_zero, Int.reduceLE, Int.reduceLT, Int.reduceToNat, Int.reduceNeg, q1, e, w2, z1]
      exact ⟨⟨_, _, rfl, Ots.nil _ _ _ _ _, Ots.nil _ _ _ _ _⟩, (hB1.addSet (by omega) _).addP (by simp; omega) _⟩
  · have e : prErr p l b = 5 := by unfold prErr; rw [if_pos (by rw [e0]; decide)]
    have w2 := fin g1 [.int .i64 0, .int .i64 0, .slice none 0 0] rfl rfl x2
    simp (config := {maxSteps := 2000000, implicitDefEqProofs := false}) only [go_sem, ↓reduceIte, Nat.reduceEqDiff, Nat.reduceAdd, Nat.reduceMul, Nat.reduceLeDiff, Nat.reduceLT, Nat.reduceSub, IntWalk.iteOmega, IntWalk.toNatUp, reduceCtorEq, false_and, and_false, false_or, or_false, true_or, or_true, not_true_eq_false, not_false_eq_true, Bool.not_true, Bool.not_false, Bool.and_true, Bool.true_and, Bool.and_false, Bool.false_and, Bool.not_eq_true, beq_self_eq_true, Nat.add_zero, Int.reduceLE, Int.reduceLT, Int.reduceToNat, Int.reduceNeg, e0, e, w2, z1]
    exact ⟨⟨_, _, rfl, Ots.nil _ _ _ _ _, Ots.nil _ _ _ _ _⟩, hB1.addSet (by omega) _⟩
end Go.Proofs.YtnpacofabdgcdaaDoor
