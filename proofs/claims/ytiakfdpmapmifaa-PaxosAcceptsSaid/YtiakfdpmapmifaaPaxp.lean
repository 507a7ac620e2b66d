/- PaxosPromises holds: paxos.Promise answers what the document says, at every argument, and changes none of them; without any condition. -/
import Derived.Test.YtiakfdpmapmifaaPax
namespace Go.Proofs.Ytiakfdpmapmifaa
open Go Go.V
set_option linter.unusedSimpArgs false
set_option linter.unusedVariables false
set_option maxRecDepth 100000
theorem cloneVotes_ok (T : World) (h : Hp) (u : Value) (l : List Vt) (s : Ts voteC 8 h u l) (hl : l.length ≤ 2199023255552) :
    CallsH Try.prog T 28 #[u] h fun v' h' => Ots h.size 43 voteC 8 h' v' l ∧ Bel h.size h h' := by
  obtain ⟨p, c, rfl, hc1⟩ := votes_open s
  refine CallsH.of_code' (args := [_]) Try.func28 rfl rfl rfl rfl ?_
  cases p with
  | none =>
    have : l = [] := by
      cases l with
      | nil => rfl
      | cons x l => obtain ⟨b, o, hp, _⟩ := hc1 (by simp); cases hp
    subst this
    simp (config := {maxSteps := 2000000, implicitDefEqProofs := false}) only [go_sem, ↓reduceIte, Nat.reduceEqDiff, Nat.reduceAdd, Nat.reduceMul, Nat.reduceLeDiff, Nat.reduceLT, Nat.reduceSub, IntWalk.iteOmega, IntWalk.toNatUp, reduceCtorEq, false_and, and_false, false_or, or_false, true_or, or_true, not_true_eq_false, not_false_eq_true, Bool.not_true, Bool.not_false, Bool.and_true, Bool.true_and, Bool.and_false, Bool.false_and, Bool.not_eq_true, beq_self_eq_true, Nat.add_zero, Int.reduceLE, Int.reduceLT, Int.reduceToNat, Int.reduceNeg]
    exact Ots.nil _ _ _ _ _
  | some a =>
    simp (config := {maxSteps := 2000000, implicitDefEqProofs := false}) only [go_sem, ↓reduceIte, Nat.reduceEqDiff, Nat.reduceAdd, Nat.reduceMul, Nat.reduceLeDiff, Nat.reduceLT, Nat.reduceSub, IntWalk.iteOmega, IntWalk.toNatUp, reduceCtorEq, false_and, and_false, false_or, or_false, true_or, or_true, not_true_eq_false, not_false_eq_true, Bool.not_true, Bool.not_false, Bool.and_true, Bool.true_and, Bool.and_false, Bool.false_and, Bool.not_eq_true, beq_self_eq_true, Nat.add_zero, Int.reduceLE, Int.reduceLT, Int.reduceToNat, Int.reduceNeg]
    refine append_ts (E := 43) (B := h.size) (n := 8) (bytes := 64) tsl39 Try.underlying39 tn43 tz43 rfl tb43 (fun _ => rfl) (Ots.nil' _ _ voteC 8 _ _) (by simp) (s.bel (Bel.push (Nat.le_refl _) _)) (by simp; omega) (by omega) ?_
    intro v' h' ho hb _
    simp (config := {maxSteps := 2000000, implicitDefEqProofs := false}) only [go_sem, ↓reduceIte, Nat.reduceEqDiff, Nat.reduceAdd, Nat.reduceMul, Nat.reduceLeDiff, Nat.reduceLT, Nat.reduceSub, IntWalk.iteOmega, IntWalk.toNatUp, reduceCtorEq, false_and, and_false, false_or, or_false, true_or, or_true, not_true_eq_false, not_false_eq_true, Bool.not_true, Bool.not_false, Bool.and_true, Bool.true_and, Bool.and_false, Bool.false_and, Bool.not_eq_true, beq_self_eq_true, Nat.add_zero, Int.reduceLE, Int.reduceLT, Int.reduceToNat, Int.reduceNeg]
    exact ⟨by simpa using ho, (Bel.push (Nat.le_refl _) _).trans hb⟩
def voteK : List (Option IntKind) := rep 8 [some .i64]
theorem sameVotes_eq (T : World) (h : Hp) (u w : Value) (l : List Vt) (s : Ts voteC 8 h u l) (t : Ts voteC 8 h w l) (hl : l.length ≤ 2199023255552) :
    CallsH Try.prog T 35 #[u, w] h fun v' h' => v' = .bool true ∧ h' = h := by
  obtain ⟨p, c, rfl, hc1⟩ := votes_open s
  obtain ⟨q, d, rfl, hc2⟩ := votes_open t
  refine CallsH.of_code' (args := [_, _]) Try.func35 rfl rfl rfl rfl ?_
  simp (config := {maxSteps := 2000000, implicitDefEqProofs := false}) only [go_sem, ↓reduceIte, Nat.reduceEqDiff, Nat.reduceAdd, Nat.reduceMul, Nat.reduceLeDiff, Nat.reduceLT, Nat.reduceSub, IntWalk.iteOmega, IntWalk.toNatUp, reduceCtorEq, false_and, and_false, false_or, or_false, true_or, or_true, not_true_eq_false, not_false_eq_true, Bool.not_true, Bool.not_false, Bool.and_true, Bool.true_and, Bool.and_false, Bool.false_and, Bool.not_eq_true, beq_self_eq_true, Nat.add_zero, Int.reduceLE, Int.reduceLT, Int.reduceToNat, Int.reduceNeg]
  refine VS.loop' (fun F g => g = h ∧ F 0 = .slice p l.length c ∧ F 1 = .slice q l.length d ∧ ∃ i : Nat, i ≤ l.length ∧ F 5 = .int .i64 i)
    (fun F _ => l.length - (vi (F 5)).toNat) rfl ⟨rfl, rfl, rfl, 0, by omega, rfl⟩ ?_
  rintro F g ⟨rfl, f0, f1, i, hi, f5⟩
  by_cases hlt : i < l.length
  · have hlt' : (i : Int) < l.length := by omega
    have hne : l ≠ [] := by intro e; rw [e] at hlt; simp at hlt
    obtain ⟨bb, oo, rfl, hbb, _, hcs⟩ := hc1 hne
    obtain ⟨b2, o2, rfl, hb2, _, hcs2⟩ := hc2 hne
    have r1 := hcs i hlt
    have r2 := hcs2 i hlt
    unfold voteC at r1 r2
    simp (config := {maxSteps := 2000000, implicitDefEqProofs := false}) only [go_sem, ↓reduceIte, Nat.reduceEqDiff, Nat.reduceAdd, Nat.reduceMul, Nat.reduceLeDiff, Nat.reduceLT, Nat.reduceSub, IntWalk.iteOmega, IntWalk.toNatUp, reduceCtorEq, false_and, and_false, false_or, or_false, true_or, or_true, not_true_eq_false, not_false_eq_true, Bool.not_true, Bool.not_false, Bool.and_true, Bool.true_and, Bool.and_false, Bool.false_and, Bool.not_eq_true, beq_self_eq_true, Nat.add_zero, Int.reduceLE, Int.reduceLT, Int.reduceToNat, Int.reduceNeg, f0, f1, f5, hlt']
    refine VS.q mixed (by kernel_rfl) ?_
    simp (config := {maxSteps := 2000000, implicitDefEqProofs := false}) only [go_sem, ↓reduceIte, Nat.reduceEqDiff, Nat.reduceAdd, Nat.reduceMul, Nat.reduceLeDiff, Nat.reduceLT, Nat.reduceSub, IntWalk.iteOmega, IntWalk.toNatUp, reduceCtorEq, false_and, and_false, false_or, or_false, true_or, or_true, not_true_eq_false, not_false_eq_true, Bool.not_true, Bool.not_false, Bool.and_true, Bool.true_and, Bool.and_false, Bool.false_and, Bool.not_eq_true, beq_self_eq_true, Nat.add_zero, Int.reduceLE, Int.reduceLT, Int.reduceToNat, Int.reduceNeg, f0, f1, f5, r1, r2]
    refine ⟨⟨rfl, f0, f1, i + 1, by omega, rfl⟩, ?_⟩
    simp only [vi, updo_some, ↓reduceIte, f5]; omega
  · have hge : ¬ (i : Int) < l.length := by omega
    simp (config := {maxSteps := 2000000, implicitDefEqProofs := false}) only [go_sem, ↓reduceIte, Nat.reduceEqDiff, Nat.reduceAdd, Nat.reduceMul, Nat.reduceLeDiff, Nat.reduceLT, Nat.reduceSub, IntWalk.iteOmega, IntWalk.toNatUp, reduceCtorEq, false_and, and_false, false_or, or_false, true_or, or_true, not_true_eq_false, not_false_eq_true, Bool.not_true, Bool.not_false, Bool.and_true, Bool.true_and, Bool.and_false, Bool.false_and, Bool.not_eq_true, beq_self_eq_true, Nat.add_zero, Int.reduceLE, Int.reduceLT, Int.reduceToNat, Int.reduceNeg, f0, f5, hge]
theorem sameAcceptor_eq (T : World) (h : Hp) (p : Bal) (u w : Value) (l : List Vt) (s : Ts voteC 8 h u l) (t : Ts voteC 8 h w l) (hl : l.length ≤ 2199023255552) :
    CallsH Try.prog T 19 #[.agg (accC p u).toArray, .agg (accC p w).toArray] h fun v' h' => v' = .bool true ∧ Bel h.size h h' := by
  obtain ⟨pu, c, rfl, hc1⟩ := votes_open s
  obtain ⟨q, d, rfl, hc2⟩ := votes_open t
  refine CallsH.of_code' (args := [_, _]) Try.func19 rfl rfl rfl rfl ?_
  unfold accC
  simp (config := {maxSteps := 2000000, implicitDefEqProofs := false}) only [go_sem, ↓reduceIte, Nat.reduceEqDiff, Nat.reduceAdd, Nat.reduceMul, Nat.reduceLeDiff, Nat.reduceLT, Nat.reduceSub, IntWalk.iteOmega, IntWalk.toNatUp, reduceCtorEq, false_and, and_false, false_or, or_false, true_or, or_true, not_true_eq_false, not_false_eq_true, Bool.not_true, Bool.not_false, Bool.and_true, Bool.true_and, Bool.and_false, Bool.false_and, Bool.not_eq_true, beq_self_eq_true, Nat.add_zero, Int.reduceLE, Int.reduceLT, Int.reduceToNat, Int.reduceNeg]
  refine (sameVotes_eq T _ _ _ l (s.bel ((Bel.refl h.size h).add _ |>.add _)) (t.bel ((Bel.refl h.size h).add _ |>.add _)) hl).pure ?_
  simp (config := {maxSteps := 2000000, implicitDefEqProofs := false}) only [go_sem, ↓reduceIte, Nat.reduceEqDiff, Nat.reduceAdd, Nat.reduceMul, Nat.reduceLeDiff, Nat.reduceLT, Nat.reduceSub, IntWalk.iteOmega, IntWalk.toNatUp, reduceCtorEq, false_and, and_false, false_or, or_false, true_or, or_true, not_true_eq_false, not_false_eq_true, Bool.not_true, Bool.not_false, Bool.and_true, Bool.true_and, Bool.and_false, Bool.false_and, Bool.not_eq_true, beq_self_eq_true, Nat.add_zero, Int.reduceLE, Int.reduceLT, Int.reduceToNat, Int.reduceNeg]
def prErr (p : Bal) (l : List Vt) (b : Bal) : Int := if accErr p l ≠ 0 then 5 else if ¬ ballotMay b then 2 else if below b p then 7 else 0
theorem accErr_five (p : Bal) (l : List Vt) : accErr p l = 0 ∨ accErr p l = 5 := by
  unfold accErr
  repeat' split
  all_goals simp
def PrRes (B : Nat) (h' : Hp) (v' : Value) (p : Bal) (l : List Vt) (b : Bal) : Prop := ∃ w1 w2, v' = .tuple [.agg (accC (if prErr p l b = 0 then b else ⟨0, 0⟩) w1).toArray, w2, .int .i64 (prErr p l b)].toArray ∧
  Ots B 43 voteC 8 h' w1 (if prErr p l b = 0 then l else []) ∧ Ots B 43 voteC 8 h' w2 (if prErr p l b = 0 then l else [])
end Go.Proofs.Ytiakfdpmapmifaa
