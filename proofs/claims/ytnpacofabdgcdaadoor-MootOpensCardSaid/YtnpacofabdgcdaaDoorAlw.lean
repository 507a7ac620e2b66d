/- Whether a token allows a command: what the program and the document compute; no condition but those in the statements. -/
import Derived.Test.YtnpacofabdgcdaaDoorTok
import Derived.Test.YtnpacofabdgcdaaDoorW16
namespace Go.Proofs.YtnpacofabdgcdaaDoor
open Go Go.V
set_option linter.unusedSimpArgs false
set_option linter.unusedVariables false
set_option maxRecDepth 100000
/-- Has a token the right that a kind asks for? -/
def hasR (k r : Nat) : Prop := (k = 1 ∧ r / 2 % 2 = 1) ∨ (k = 2 ∧ r % 2 = 1) ∨ (k = 3 ∧ r / 4 = 1)
instance (k r : Nat) : Decidable (hasR k r) := by unfold hasR; infer_instance
def alErr (tc tr tu k c s n v now : Int) : Int :=
  if tokErr tc tr tu ≠ 0 then tokErr tc tr tu else
  if cmdErr k c s n v ≠ 0 then cmdErr k c s n v else
  if ¬ hasR k.toNat tr.toNat ∨ tc ≠ c then 11 else
  if now < 0 ∨ tu < now then 10 else 0
def needN : List Nat := [0, 2, 1, 4]
def niv (x : Nat) : Value := .int .i64 (x : Nat)
theorem need_and {k r : Nat} (hk : k < 4) (hr : r < 8) : bitOp .and .i64 (r : Nat) (needN.getD k 0 : Nat) = 0 ↔ ¬ hasR k r := by
  rw [and_i64 _ _ (by omega) (by rcases k with _ | _ | _ | _ | k <;> first | decide | omega)]
  have all : ∀ k, k < 4 → ∀ r, r < 8 → (r &&& needN.getD k 0 = 0 ↔ ¬ hasR k r) := by decide
  have := all k hk r hr
  exact ⟨fun h => this.1 (by omega), fun h => by have := this.2 h; omega⟩
theorem tokErr_zero {c r u : Int} (h : tokErr c r u = 0) : ∃ c' r' u' : Nat, c = c' ∧ r = r' ∧ u = u' ∧ c' < 8 ∧ r' < 8 ∧ u' ≤ 1048576 := by
  unfold tokErr at h
  split at h
  · cases h
  · exact ⟨c.toNat, r.toNat, u.toNat, by omega, by omega, by omega, by omega, by omega, by omega⟩
theorem cmdErr_kind {k c s n v : Int} (h : cmdErr k c s n v = 0) : ∃ k' : Nat, k = k' ∧ k' < 4 := by
  unfold cmdErr at h
  split at h
  · cases h
  · exact ⟨k.toNat, by omega, by omega⟩
theorem allows_ok (T : World) (h : Hp) (tc tr tu k c s n v now : Int) (tn : Tab 0 niv needN h) :
    CallsH Tryd.prog T 21 #[.agg (tokC tc tr tu).toArray, .agg (cmdC k c s n v).toArray, .int .i64 now] h fun v' h' => v' = .int .i64 (alErr tc tr tu k c s n v now) ∧ Bel h.size h h' := by
  refine CallsH.of_code' (args := [_, _, _]) Tryd.func21 rfl rfl rfl rfl ?_
  unfold tokC cmdC
  have hb : (0 : Nat) < h.size := tn.1
  simp (config := {contextual := true, maxSteps := 2000000, implicitDefEqProofs := false}) only [go_sem, ↓reduceIte, Nat.reduceEqDiff, Nat.reduceAdd, Nat.reduceMul, Nat.reduceLeDiff, Nat.reduceLT, Nat.reduceSub, IntWalk.iteOmega, IntWalk.toNatUp, reduceCtorEq, Int.reduceLE, Int.reduceLT, Int.reduceToNat, Int.reduceNeg]
  refine (token_ok T _ tc tr tu).use ?_
  rintro _ _ ⟨rfl, rfl⟩
  unfold tokC
  by_cases q1 : tokErr tc tr tu = 0
  case neg =>
    have e : alErr tc tr tu k c s n v now = tokErr tc tr tu := by unfold alErr; rw [if_pos q1]
    rw [e]
    simp (config := {contextual := true, maxSteps := 2000000, implicitDefEqProofs := false}) only [go_sem, ↓reduceIte, Nat.reduceEqDiff, Nat.reduceAdd, Nat.reduceMul, Nat.reduceLeDiff, Nat.reduceLT, Nat.reduceSub, IntWalk.iteOmega, IntWalk.toNatUp, reduceCtorEq, Int.reduceLE, Int.reduceLT, Int.reduceToNat, Int.reduceNeg, q1]
    (repeat' (first | exact Bel.refl _ _ | assumption | refine Bel.add ?_ _ | refine Bel.addSet ?_ (by first | omega | (simp; omega)) _ | refine Bel.trans (by assumption) ?_))
  obtain ⟨tc, tr, tu, rfl, rfl, rfl, b1, b2, b3⟩ := tokErr_zero q1
  simp (config := {contextual := true, maxSteps := 2000000, implicitDefEqProofs := false}) only [go_sem, ↓reduceIte, Nat.reduceEqDiff, Nat.reduceAdd, Nat.reduceMul, Nat.reduceLeDiff, Nat.reduceLT, Nat.reduceSub, IntWalk.iteOmega, IntWalk.toNatUp, reduceCtorEq, Int.reduceLE, Int.reduceLT, Int.reduceToNat, Int.reduceNeg, q1]
  refine (orderCheck_ok T _ k c s n v).use ?_
  rintro _ _ ⟨rfl, rfl⟩
  unfold cmdC
  by_cases q2 : cmdErr k c s n v = 0
  case neg =>
    have e : alErr tc tr tu k c s n v now = cmdErr k c s n v := by unfold alErr; rw [if_neg (by omega), if_pos q2]
    rw [e]
    simp (config := {contextual := true, maxSteps := 2000000, implicitDefEqProofs := false}) only [go_sem, ↓reduceIte, Nat.reduceEqDiff, Nat.reduceAdd, Nat.reduceMul, Nat.reduceLeDiff, Nat.reduceLT, Nat.reduceSub, IntWalk.iteOmega, IntWalk.toNatUp, reduceCtorEq, Int.reduceLE, Int.reduceLT, Int.reduceToNat, Int.reduceNeg, q2]
    (repeat' (first | exact Bel.refl _ _ | assumption | refine Bel.add ?_ _ | refine Bel.addSet ?_ (by first | omega | (simp; omega)) _ | refine Bel.trans (by assumption) ?_))
  obtain ⟨k, rfl, b4⟩ := cmdErr_kind q2
  have n1 : hc h ⟨0, k, none⟩ = some (.int .i64 (needN.getD k 0 : Nat)) := tn.2 k b4
  have n2 := need_and b4 b2
  have b4' : (k : Int) < 4 := by omega
  have b5 : 0 ≤ (k : Int) := by omega
  have b6 : (k : Int).toNat = k := by omega
  obtain ⟨A, hA⟩ : ∃ A, A = bitOp .and .i64 (tr : Nat) (needN.getD k 0 : Nat) := ⟨_, rfl⟩
  rw [← hA] at n2
  have n3 : bitOp .and .i64 (tr : Nat) (needN.getD k 0 : Nat) = A := hA.symm
  generalize needN.getD k 0 = N at *
  clear hA
  have e : alErr tc tr tu k c s n v now = if ¬ hasR k tr ∨ (tc : Int) ≠ c then 11 else if now < 0 ∨ (tu : Int) < now then 10 else 0 := by
    unfold alErr; rw [if_neg (by omega), if_neg (by omega)]; rfl
  rw [e]
  clear e
  have pk : ∀ (p : Prop), p → p = True := fun p hp => eq_true hp
  have pn : ∀ (p : Prop), ¬ p → p = False := fun p hp => eq_false hp
  rw [q2]
  by_cases k0 : (k : Int) = 0
  · have z1 : ¬ hasR k tr := by unfold hasR; omega
    have k1 := pk _ k0
    rw [if_pos (.inl z1)]
    simp (config := {maxSteps := 2000000, implicitDefEqProofs := false}) only [go_sem, ↓reduceIte, Nat.reduceEqDiff, Nat.reduceAdd, Nat.reduceMul, Nat.reduceLeDiff, Nat.reduceLT, Nat.reduceSub, IntWalk.iteOmega, IntWalk.toNatUp, reduceCtorEq, Int.reduceLE, Int.reduceLT, Int.reduceToNat, Int.reduceNeg, n1, k1, b4', b5, b6]
    (repeat' (first | exact Bel.refl _ _ | assumption | refine Bel.add ?_ _ | refine Bel.addSet ?_ (by first | omega | (simp; omega)) _ | refine Bel.trans (by assumption) ?_))
  · have k1 := pn _ k0
    by_cases t0 : (tc : Int) = c
    · have t1 := pk _ t0
      by_cases a0 : A = 0
      · have z1 := n2.1 a0
        rw [if_pos (.inl z1)]
        have a1 := pk _ a0
        simp (config := {maxSteps := 2000000, implicitDefEqProofs := false}) only [go_sem, ↓reduceIte, Nat.reduceEqDiff, Nat.reduceAdd, Nat.reduceMul, Nat.reduceLeDiff, Nat.reduceLT, Nat.reduceSub, IntWalk.iteOmega, IntWalk.toNatUp, reduceCtorEq, Int.reduceLE, Int.reduceLT, Int.reduceToNat, Int.reduceNeg, n1, n3, k1, t1, a1, b4', b5, b6]
        (repeat' (first | exact Bel.refl _ _ | assumption | refine Bel.add ?_ _ | refine Bel.addSet ?_ (by first | omega | (simp; omega)) _ | refine Bel.trans (by assumption) ?_))
      · have z1 : hasR k tr := Decidable.not_not.1 (fun hn => a0 (n2.2 hn))
        have a1 := pn _ a0
        rw [if_neg (by simp only [not_or, Decidable.not_not, ne_eq]; exact ⟨z1, t0⟩)]
        by_cases o1 : now < 0
        · rw [if_pos (.inl o1)]
          simp (config := {maxSteps := 2000000, implicitDefEqProofs := false}) only [go_sem, ↓reduceIte, Nat.reduceEqDiff, Nat.reduceAdd, Nat.reduceMul, Nat.reduceLeDiff, Nat.reduceLT, Nat.reduceSub, IntWalk.iteOmega, IntWalk.toNatUp, reduceCtorEq, Int.reduceLE, Int.reduceLT, Int.reduceToNat, Int.reduceNeg, n1, n3, k1, t1, a1, b4', b5, b6, o1]
          (repeat' (first | exact Bel.refl _ _ | assumption | refine Bel.add ?_ _ | refine Bel.addSet ?_ (by first | omega | (simp; omega)) _ | refine Bel.trans (by assumption) ?_))
        · by_cases o2 : (tu : Int) < now
          · rw [if_pos (.inr o2)]
            simp (config := {maxSteps := 2000000, implicitDefEqProofs := false}) only [go_sem, ↓reduceIte, Nat.reduceEqDiff, Nat.reduceAdd, Nat.reduceMul, Nat.reduceLeDiff, Nat.reduceLT, Nat.reduceSub, IntWalk.iteOmega, IntWalk.toNatUp, reduceCtorEq, Int.reduceLE, Int.reduceLT, Int.reduceToNat, Int.reduceNeg, n1, n3, k1, t1, a1, b4', b5, b6, o1, o2]
            (repeat' (first | exact Bel.refl _ _ | assumption | refine Bel.add ?_ _ | refine Bel.addSet ?_ (by first | omega | (simp; omega)) _ | refine Bel.trans (by assumption) ?_))
          · rw [if_neg (by omega)]
            simp (config := {maxSteps := 2000000, implicitDefEqProofs := false}) only [go_sem, ↓reduceIte, Nat.reduceEqDiff, Nat.reduceAdd, Nat.reduceMul, Nat.reduceLeDiff, Nat.reduceLT, Nat.reduceSub, IntWalk.iteOmega, IntWalk.toNatUp, reduceCtorEq, Int.reduceLE, Int.reduceLT, Int.reduceToNat, Int.reduceNeg, n1, n3, k1, t1, a1, b4', b5, b6, o1, o2]
            (repeat' (first | exact Bel.refl _ _ | assumption | refine Bel.add ?_ _ | refine Bel.addSet ?_ (by first | omega | (simp; omega)) _ | refine Bel.trans (by assumption) ?_))
    · have t1 := pn _ t0
      rw [if_pos (.inr t0)]
      simp (config := {maxSteps := 2000000, implicitDefEqProofs := false}) only [go_sem, ↓reduceIte, Nat.reduceEqDiff, Nat.reduceAdd, Nat.reduceMul, Nat.reduceLeDiff, Nat.reduceLT, Nat.reduceSub, IntWalk.iteOmega, IntWalk.toNatUp, reduceCtorEq, Int.reduceLE, Int.reduceLT, Int.reduceToNat, Int.reduceNeg, n1, k1, t1, b4', b5, b6]
      (repeat' (first | exact Bel.refl _ _ | assumption | refine Bel.add ?_ _ | refine Bel.addSet ?_ (by first | omega | (simp; omega)) _ | refine Bel.trans (by assumption) ?_))
theorem allowed_ok (T : World) (h : Hp) (tc tr tu k c s n v now : Int) :
    CallsH Tryd.prog T 22 #[.agg (tokC tc tr tu).toArray, .agg (cmdC k c s n v).toArray, .int .i64 now] h fun v' h' => v' = .int .i64 (alErr tc tr tu k c s n v now) ∧ Bel h.size h h' := by
  refine CallsH.of_code' (args := [_, _, _]) Tryd.func22 rfl rfl rfl rfl ?_
  unfold tokC cmdC
  simp (config := {contextual := true, maxSteps := 2000000, implicitDefEqProofs := false}) only [go_sem, ↓reduceIte, Nat.reduceEqDiff, Nat.reduceAdd, Nat.reduceMul, Nat.reduceLeDiff, Nat.reduceLT, Nat.reduceSub, IntWalk.iteOmega, IntWalk.toNatUp, reduceCtorEq, Int.reduceLE, Int.reduceLT, Int.reduceToNat, Int.reduceNeg]
  refine (tokenFault_ok T _ tc tr tu).use ?_
  rintro _ _ ⟨rfl, rfl⟩
  unfold tokC
  by_cases q1 : tokErr tc tr tu = 0
  case neg =>
    have e : alErr tc tr tu k c s n v now = tokErr tc tr tu := by unfold alErr; rw [if_pos q1]
    rw [e]
    simp (config := {contextual := true, maxSteps := 2000000, implicitDefEqProofs := false}) only [go_sem, ↓reduceIte, Nat.reduceEqDiff, Nat.reduceAdd, Nat.reduceMul, Nat.reduceLeDiff, Nat.reduceLT, Nat.reduceSub, IntWalk.iteOmega, IntWalk.toNatUp, reduceCtorEq, Int.reduceLE, Int.reduceLT, Int.reduceToNat, Int.reduceNeg, q1]
    (repeat' (first | exact Bel.refl _ _ | assumption | refine Bel.add ?_ _ | refine Bel.addSet ?_ (by first | omega | (simp; omega)) _ | refine Bel.trans (by assumption) ?_))
  obtain ⟨tc, tr, tu, rfl, rfl, rfl, b1, b2, b3⟩ := tokErr_zero q1
  simp (config := {contextual := true, maxSteps := 2000000, implicitDefEqProofs := false}) only [go_sem, ↓reduceIte, Nat.reduceEqDiff, Nat.reduceAdd, Nat.reduceMul, Nat.reduceLeDiff, Nat.reduceLT, Nat.reduceSub, IntWalk.iteOmega, IntWalk.toNatUp, reduceCtorEq, Int.reduceLE, Int.reduceLT, Int.reduceToNat, Int.reduceNeg, q1]
  refine (commandFault_ok T _ k c s n v).use ?_
  rintro _ _ ⟨rfl, rfl⟩
  unfold cmdC
  by_cases q2 : cmdErr k c s n v = 0
  case neg =>
    have e : alErr tc tr tu k c s n v now = cmdErr k c s n v := by unfold alErr; rw [if_neg (by omega), if_pos q2]
    rw [e]
    simp (config := {contextual := true, maxSteps := 2000000, implicitDefEqProofs := false}) only [go_sem, ↓reduceIte, Nat.reduceEqDiff, Nat.reduceAdd, Nat.reduceMul, Nat.reduceLeDiff, Nat.reduceLT, Nat.reduceSub, IntWalk.iteOmega, IntWalk.toNatUp, reduceCtorEq, Int.reduceLE, Int.reduceLT, Int.reduceToNat, Int.reduceNeg, q2]
    (repeat' (first | exact Bel.refl _ _ | assumption | refine Bel.add ?_ _ | refine Bel.addSet ?_ (by first | omega | (simp; omega)) _ | refine Bel.trans (by assumption) ?_))
  obtain ⟨k, rfl, b4⟩ := cmdErr_kind q2
  have e : alErr tc tr tu k c s n v now = if ¬ hasR k tr ∨ (tc : Int) ≠ c then 11 else if now < 0 ∨ (tu : Int) < now then 10 else 0 := by
    unfold alErr; rw [if_neg (by omega), if_neg (by omega)]; rfl
  rw [e]
  clear e
  have d1 : (tr : Int).tdiv 2 = ((tr / 2 : Nat) : Int) := rfl
  have d2 : ((tr / 2 : Nat) : Int).tmod 2 = ((tr / 2 % 2 : Nat) : Int) := rfl
  have d3 : (tr : Int).tmod 2 = ((tr % 2 : Nat) : Int) := rfl
  have d4 : (tr : Int).tdiv 4 = ((tr / 4 : Nat) : Int) := rfl
  have hk : k = 0 ∨ k = 1 ∨ k = 2 ∨ k = 3 := by omega
  rcases hk with rfl | rfl | rfl | rfl
  · have z1 : ¬ hasR 0 tr := by unfold hasR; omega
    rw [if_pos (.inl z1), q2]
    simp (config := {maxSteps := 2000000, implicitDefEqProofs := false}) only [go_sem, ↓reduceIte, Nat.reduceEqDiff, Nat.reduceAdd, Nat.reduceMul, Nat.reduceLeDiff, Nat.reduceLT, Nat.reduceSub, IntWalk.iteOmega, IntWalk.toNatUp, reduceCtorEq, Int.reduceLE, Int.reduceLT, Int.reduceToNat, Int.reduceNeg]
    (repeat' (first | exact Bel.refl _ _ | assumption | refine Bel.add ?_ _ | refine Bel.addSet ?_ (by first | omega | (simp; omega)) _ | refine Bel.trans (by assumption) ?_))
  · rw [q2]
    by_cases z : tr / 2 % 2 = 1
    · have zp : (((tr / 2 % 2 : Nat) : Int) = 1) = True := eq_true (by omega)
      have hz : hasR 1 tr := by unfold hasR; omega
      by_cases t0 : (tc : Int) = c
      · have t1 : ((tc : Int) = c) = True := eq_true t0
        rw [if_neg (by simp only [not_or, Decidable.not_not, ne_eq]; exact ⟨hz, t0⟩)]
        simp (config := {maxSteps := 2000000, implicitDefEqProofs := false}) only [go_sem, ↓reduceIte, Nat.reduceEqDiff, Nat.reduceAdd, Nat.reduceMul, Nat.reduceLeDiff, Nat.reduceLT, Nat.reduceSub, IntWalk.iteOmega, IntWalk.toNatUp, reduceCtorEq, Int.reduceLE, Int.reduceLT, Int.reduceToNat, Int.reduceNeg, d1, d2, zp, t1]
        refine (in_ok T _ _ _ _).pure ?_
        by_cases o : 0 ≤ now ∧ now ≤ (tu : Int)
        · have hd : decide (0 ≤ now ∧ now ≤ (tu : Int)) = true := decide_eq_true o
          rw [if_neg (by omega), hd]
          simp (config := {maxSteps := 2000000, implicitDefEqProofs := false}) only [go_sem, ↓reduceIte, Nat.reduceEqDiff, Nat.reduceAdd, Nat.reduceMul, Nat.reduceLeDiff, Nat.reduceLT, Nat.reduceSub, IntWalk.iteOmega, IntWalk.toNatUp, reduceCtorEq, Int.reduceLE, Int.reduceLT, Int.reduceToNat, Int.reduceNeg]
          (repeat' (first | exact Bel.refl _ _ | assumption | refine Bel.add ?_ _ | refine Bel.addSet ?_ (by first | omega | (simp; omega)) _ | refine Bel.trans (by assumption) ?_))
        · have hd : decide (0 ≤ now ∧ now ≤ (tu : Int)) = false := decide_eq_false o
          rw [if_pos (by omega), hd]
          simp (config := {maxSteps := 2000000, implicitDefEqProofs := false}) only [go_sem, ↓reduceIte, Nat.reduceEqDiff, Nat.reduceAdd, Nat.reduceMul, Nat.reduceLeDiff, Nat.reduceLT, Nat.reduceSub, IntWalk.iteOmega, IntWalk.toNatUp, reduceCtorEq, Int.reduceLE, Int.reduceLT, Int.reduceToNat, Int.reduceNeg]
          (repeat' (first | exact Bel.refl _ _ | assumption | refine Bel.add ?_ _ | refine Bel.addSet ?_ (by first | omega | (simp; omega)) _ | refine Bel.trans (by assumption) ?_))
      · have t1 : ((tc : Int) = c) = False := eq_false t0
        rw [if_pos (.inr t0)]
        simp (config := {maxSteps := 2000000, implicitDefEqProofs := false}) only [go_sem, ↓reduceIte, Nat.reduceEqDiff, Nat.reduceAdd, Nat.reduceMul, Nat.reduceLeDiff, Nat.reduceLT, Nat.reduceSub, IntWalk.iteOmega, IntWalk.toNatUp, reduceCtorEq, Int.reduceLE, Int.reduceLT, Int.reduceToNat, Int.reduceNeg, d1, d2, zp, t1]
        (repeat' (first | exact Bel.refl _ _ | assumption | refine Bel.add ?_ _ | refine Bel.addSet ?_ (by first | omega | (simp; omega)) _ | refine Bel.trans (by assumption) ?_))
    · have zp : (((tr / 2 % 2 : Nat) : Int) = 1) = False := eq_false (by omega)
      have hz : ¬ hasR 1 tr := by unfold hasR; omega
      rw [if_pos (.inl hz)]
      simp (config := {maxSteps := 2000000, implicitDefEqProofs := false}) only [go_sem, ↓reduceIte, Nat.reduceEqDiff, Nat.reduceAdd, Nat.reduceMul, Nat.reduceLeDiff, Nat.reduceLT, Nat.reduceSub, IntWalk.iteOmega, IntWalk.toNatUp, reduceCtorEq, Int.reduceLE, Int.reduceLT, Int.reduceToNat, Int.reduceNeg, d1, d2, zp]
      (repeat' (first | exact Bel.refl _ _ | assumption | refine Bel.add ?_ _ | refine Bel.addSet ?_ (by first | omega | (simp; omega)) _ | refine Bel.trans (by assumption) ?_))
  · rw [q2]
    by_cases z : tr % 2 = 1
    · have zp : (((tr % 2 : Nat) : Int) = 1) = True := eq_true (by omega)
      have hz : hasR 2 tr := by unfold hasR; omega
      by_cases t0 : (tc : Int) = c
      · have t1 : ((tc : Int) = c) = True := eq_true t0
        rw [if_neg (by simp only [not_or, Decidable.not_not, ne_eq]; exact ⟨hz, t0⟩)]
        simp (config := {maxSteps := 2000000, implicitDefEqProofs := false}) only [go_sem, ↓reduceIte, Nat.reduceEqDiff, Nat.reduceAdd, Nat.reduceMul, Nat.reduceLeDiff, Nat.reduceLT, Nat.reduceSub, IntWalk.iteOmega, IntWalk.toNatUp, reduceCtorEq, Int.reduceLE, Int.reduceLT, Int.reduceToNat, Int.reduceNeg, d3, zp, t1]
        refine (in_ok T _ _ _ _).pure ?_
        by_cases o : 0 ≤ now ∧ now ≤ (tu : Int)
        · have hd : decide (0 ≤ now ∧ now ≤ (tu : Int)) = true := decide_eq_true o
          rw [if_neg (by omega), hd]
          simp (config := {maxSteps := 2000000, implicitDefEqProofs := false}) only [go_sem, ↓reduceIte, Nat.reduceEqDiff, Nat.reduceAdd, Nat.reduceMul, Nat.reduceLeDiff, Nat.reduceLT, Nat.reduceSub, IntWalk.iteOmega, IntWalk.toNatUp, reduceCtorEq, Int.reduceLE, Int.reduceLT, Int.reduceToNat, Int.reduceNeg]
          (repeat' (first | exact Bel.refl _ _ | assumption | refine Bel.add ?_ _ | refine Bel.addSet ?_ (by first | omega | (simp; omega)) _ | refine Bel.trans (by assumption) ?_))
        · have hd : decide (0 ≤ now ∧ now ≤ (tu : Int)) = false := decide_eq_false o
          rw [if_pos (by omega), hd]
          simp (config := {maxSteps := 2000000, implicitDefEqProofs := false}) only [go_sem, ↓reduceIte, Nat.reduceEqDiff, Nat.reduceAdd, Nat.reduceMul, Nat.reduceLeDiff, Nat.reduceLT, Nat.reduceSub, IntWalk.iteOmega, IntWalk.toNatUp, reduceCtorEq, Int.reduceLE, Int.reduceLT, Int.reduceToNat, Int.reduceNeg]
          (repeat' (first | exact Bel.refl _ _ | assumption | refine Bel.add ?_ _ | refine Bel.addSet ?_ (by first | omega | (simp; omega)) _ | refine Bel.trans (by assumption) ?_))
      · have t1 : ((tc : Int) = c) = False := eq_false t0
        rw [if_pos (.inr t0)]
        simp (config := {maxSteps := 2000000, implicitDefEqProofs := false}) only [go_sem, ↓reduceIte, Nat.reduceEqDiff, Nat.reduceAdd, Nat.reduceMul, Nat.reduceLeDiff, Nat.reduceLT, Nat.reduceSub, IntWalk.iteOmega, IntWalk.toNatUp, reduceCtorEq, Int.reduceLE, Int.reduceLT, Int.reduceToNat, Int.reduceNeg, d3, zp, t1]
        (repeat' (first | exact Bel.refl _ _ | assumption | refine Bel.add ?_ _ | refine Bel.addSet ?_ (by first | omega | (simp; omega)) _ | refine Bel.trans (by assumption) ?_))
    · have zp : (((tr % 2 : Nat) : Int) = 1) = False := eq_false (by omega)
      have hz : ¬ hasR 2 tr := by unfold hasR; omega
      rw [if_pos (.inl hz)]
      simp (config := {maxSteps := 2000000, implicitDefEqProofs := false}) only [go_sem, ↓reduceIte, Nat.reduceEqDiff, Nat.reduceAdd, Nat.reduceMul, Nat.reduceLeDiff, Nat.reduceLT, Nat.reduceSub, IntWalk.iteOmega, IntWalk.toNatUp, reduceCtorEq, Int.reduceLE, Int.reduceLT, Int.reduceToNat, Int.reduceNeg, d3, zp]
      (repeat' (first | exact Bel.refl _ _ | assumption | refine Bel.add ?_ _ | refine Bel.addSet ?_ (by first | omega | (simp; omega)) _ | refine Bel.trans (by assumption) ?_))
  · rw [q2]
    by_cases z : tr / 4 = 1
    · have zp : (((tr / 4 : Nat) : Int) = 1) = True := eq_true (by omega)
      have hz : hasR 3 tr := by unfold hasR; omega
      by_cases t0 : (tc : Int) = c
      · have t1 : ((tc : Int) = c) = True := eq_true t0
        rw [if_neg (by simp only [not_or, Decidable.not_not, ne_eq]; exact ⟨hz, t0⟩)]
        simp (config := {maxSteps := 2000000, implicitDefEqProofs := false}) only [go_sem, ↓reduceIte, Nat.reduceEqDiff, Nat.reduceAdd, Nat.reduceMul, Nat.reduceLeDiff, Nat.reduceLT, Nat.reduceSub, IntWalk.iteOmega, IntWalk.toNatUp, reduceCtorEq, Int.reduceLE, Int.reduceLT, Int.reduceToNat, Int.reduceNeg, d4, zp, t1]
        refine (in_ok T _ _ _ _).pure ?_
        by_cases o : 0 ≤ now ∧ now ≤ (tu : Int)
        · have hd : decide (0 ≤ now ∧ now ≤ (tu : Int)) = true := decide_eq_true o
          rw [if_neg (by omega), hd]
          simp (config := {maxSteps := 2000000, implicitDefEqProofs := false}) only [go_sem, ↓reduceIte, Nat.reduceEqDiff, Nat.reduceAdd, Nat.reduceMul, Nat.reduceLeDiff, Nat.reduceLT, Nat.reduceSub, IntWalk.iteOmega, IntWalk.toNatUp, reduceCtorEq, Int.reduceLE, Int.reduceLT, Int.reduceToNat, Int.reduceNeg]
          (repeat' (first | exact Bel.refl _ _ | assumption | refine Bel.add ?_ _ | refine Bel.addSet ?_ (by first | omega | (simp; omega)) _ | refine Bel.trans (by assumption) ?_))
        · have hd : decide (0 ≤ now ∧ now ≤ (tu : Int)) = false := decide_eq_false o
          rw [if_pos (by omega), hd]
          simp (config := {maxSteps := 2000000, implicitDefEqProofs := false}) only [go_sem, ↓reduceIte, Nat.reduceEqDiff, Nat.reduceAdd, Nat.reduceMul, Nat.reduceLeDiff, Nat.reduceLT, Nat.reduceSub, IntWalk.iteOmega, IntWalk.toNatUp, reduceCtorEq, Int.reduceLE, Int.reduceLT, Int.reduceToNat, Int.reduceNeg]
          (repeat' (first | exact Bel.refl _ _ | assumption | refine Bel.add ?_ _ | refine Bel.addSet ?_ (by first | omega | (simp; omega)) _ | refine Bel.trans (by assumption) ?_))
      · have t1 : ((tc : Int) = c) = False := eq_false t0
        rw [if_pos (.inr t0)]
        simp (config := {maxSteps := 2000000, implicitDefEqProofs := false}) only [go_sem, ↓reduceIte, Nat.reduceEqDiff, Nat.reduceAdd, Nat.reduceMul, Nat.reduceLeDiff, Nat.reduceLT, Nat.reduceSub, IntWalk.iteOmega, IntWalk.toNatUp, reduceCtorEq, Int.reduceLE, Int.reduceLT, Int.reduceToNat, Int.reduceNeg, d4, zp, t1]
        (repeat' (first | exact Bel.refl _ _ | assumption | refine Bel.add ?_ _ | refine Bel.addSet ?_ (by first | omega | (simp; omega)) _ | refine Bel.trans (by assumption) ?_))
    · have zp : (((tr / 4 : Nat) : Int) = 1) = False := eq_false (by omega)
      have hz : ¬ hasR 3 tr := by unfold hasR; omega
      rw [if_pos (.inl hz)]
      simp (config := {maxSteps := 2000000, implicitDefEqProofs := false}) only [go_sem, ↓reduceIte, Nat.reduceEqDiff, Nat.reduceAdd, Nat.reduceMul, Nat.reduceLeDiff, Nat.reduceLT, Nat.reduceSub, IntWalk.iteOmega, IntWalk.toNatUp, reduceCtorEq, Int.reduceLE, Int.reduceLT, Int.reduceToNat, Int.reduceNeg, d4, zp]
      (repeat' (first | exact Bel.refl _ _ | assumption | refine Bel.add ?_ _ | refine Bel.addSet ?_ (by first | omega | (simp; omega)) _ | refine Bel.trans (by assumption) ?_))
end Go.Proofs.YtnpacofabdgcdaaDoor
