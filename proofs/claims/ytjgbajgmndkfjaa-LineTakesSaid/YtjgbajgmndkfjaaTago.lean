/- The reference's tag, with its error; no condition but those in the statements. -/
import Derived.Test.YtjgbajgmndkfjaaTagr
namespace Go.Proofs.Ytjgbajgmndkfjaa
open Go Go.V
set_option linter.unusedSimpArgs false
set_option linter.unusedVariables false
set_option maxRecDepth 100000
def tagErr (key data : List Nat) : Int := if key.length ≠ 32 ∨ 4000 < data.length then 1 else 0
def TagRes (B : Nat) (h : Hp) (v : Value) (key data : List Nat) : Prop := ∃ w, v = .tuple #[w, .int .i64 (tagErr key data)] ∧ OBs B 5 h w (if tagErr key data = 0 then tagL key data else [])
theorem tagOf_ok (T : World) (h : Hp) (v u : Value) (key data : List Nat) (sk : Bs h v key) (sd : Bs h u data) (ck : Cap v) (cu : Cap u) :
    CallsH Try.prog T 68 #[v, u] h fun v' h' => TagRes h.size h' v' key data ∧ Bel h.size h h' := by
  obtain ⟨p, c, rfl, hkc⟩ := sk.open
  obtain ⟨q, d, rfl, hdc⟩ := sd.open
  refine CallsH.of_code' (args := [_, _]) Try.func68 rfl rfl rfl rfl ?_
  unfold TagRes
  by_cases hk : key.length = 32
  · by_cases hd : 4000 < data.length
    · have hd' : 4000 < (data.length : Int) := by omega
      have hk' : (key.length : Int) = 32 := by omega
      have e : tagErr key data = 1 := by unfold tagErr; rw [if_pos (.inr hd)]
      rw [e]
      simp (config := {maxSteps := 2000000, implicitDefEqProofs := false}) only [go_sem, ↓reduceIte, Nat.reduceEqDiff, Nat.reduceAdd, Nat.reduceMul, Nat.reduceLeDiff, Nat.reduceLT, Nat.reduceSub, IntWalk.iteOmega, IntWalk.toNatUp, reduceCtorEq, false_and, and_false, false_or, or_false, true_or, or_true, not_true_eq_false, not_false_eq_true, Bool.not_true, Bool.not_false, Bool.and_true, Bool.true_and, Bool.and_false, Bool.false_and, Bool.not_eq_true, beq_self_eq_true, Nat.add_zero, Int.reduceLE, Int.reduceLT, Int.reduceToNat, Int.reduceNeg, hd', hk']
      exact ⟨_, rfl, OBs.nil _ _ _⟩
    · have hd' : ¬ 4000 < (data.length : Int) := by omega
      have hk' : (key.length : Int) = 32 := by omega
      have e : tagErr key data = 0 := by unfold tagErr; rw [if_neg (by omega)]
      rw [e, if_pos rfl]
      simp (config := {maxSteps := 2000000, implicitDefEqProofs := false}) only [go_sem, ↓reduceIte, Nat.reduceEqDiff, Nat.reduceAdd, Nat.reduceMul, Nat.reduceLeDiff, Nat.reduceLT, Nat.reduceSub, IntWalk.iteOmega, IntWalk.toNatUp, reduceCtorEq, false_and, and_false, false_or, or_false, true_or, or_true, not_true_eq_false, not_false_eq_true, Bool.not_true, Bool.not_false, Bool.and_true, Bool.true_and, Bool.and_false, Bool.false_and, Bool.not_eq_true, beq_self_eq_true, Nat.add_zero, Int.reduceLE, Int.reduceLT, Int.reduceToNat, Int.reduceNeg, hd', hk']
      refine (tagged_ok T _ _ _ key data sk sd hk (by omega) ck cu).use ?_
      rintro v1 h1 ⟨o1, b1⟩
      simp (config := {maxSteps := 2000000, implicitDefEqProofs := false}) only [go_sem, ↓reduceIte, Nat.reduceEqDiff, Nat.reduceAdd, Nat.reduceMul, Nat.reduceLeDiff, Nat.reduceLT, Nat.reduceSub, IntWalk.iteOmega, IntWalk.toNatUp, reduceCtorEq, false_and, and_false, false_or, or_false, true_or, or_true, not_true_eq_false, not_false_eq_true, Bool.not_true, Bool.not_false, Bool.and_true, Bool.true_and, Bool.and_false, Bool.false_and, Bool.not_eq_true, beq_self_eq_true, Nat.add_zero, Int.reduceLE, Int.reduceLT, Int.reduceToNat, Int.reduceNeg]
      exact ⟨⟨_, rfl, o1⟩, b1⟩
  · have hk' : ¬ (key.length : Int) = 32 := by omega
    have e : tagErr key data = 1 := by unfold tagErr; rw [if_pos (.inl hk)]
    rw [e]
    simp (config := {maxSteps := 2000000, implicitDefEqProofs := false}) only [go_sem, ↓reduceIte, Nat.reduceEqDiff, Nat.reduceAdd, Nat.reduceMul, Nat.reduceLeDiff, Nat.reduceLT, Nat.reduceSub, IntWalk.iteOmega, IntWalk.toNatUp, reduceCtorEq, false_and, and_false, false_or, or_false, true_or, or_true, not_true_eq_false, not_false_eq_true, Bool.not_true, Bool.not_false, Bool.and_true, Bool.true_and, Bool.and_false, Bool.false_and, Bool.not_eq_true, beq_self_eq_true, Nat.add_zero, Int.reduceLE, Int.reduceLT, Int.reduceToNat, Int.reduceNeg, hk']
    exact ⟨_, rfl, OBs.nil _ _ _⟩
end Go.Proofs.Ytjgbajgmndkfjaa
