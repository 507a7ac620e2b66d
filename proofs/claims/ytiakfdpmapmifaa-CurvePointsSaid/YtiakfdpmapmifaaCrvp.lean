/- CurvePoints holds: curve.Point answers what the document says, at every argument; without any condition. -/
import Derived.Test.YtiakfdpmapmifaaCvs
namespace Go.Proofs.Ytiakfdpmapmifaa
open Go Go.V
set_option linter.unusedSimpArgs false
set_option linter.unusedVariables false
set_option maxRecDepth 100000
theorem curvePoints_ok : LawOk Try.prog 5 Try.f5.params.toList := by
  intro T args hfit
  rw [show Try.f5.params.toList = [30] from rfl] at hfit
  obtain ⟨v, _, rfl, ⟨k1, h1⟩, hfit⟩ := fitAll_cons hfit
  obtain rfl := fitAll_nil hfit
  obtain ⟨l, s, hl⟩ := fit_bytes Try.underlying30 Try.underlying5 (by kernel_rfl) (by kernel_rfl) (fitV_one ta30 h1)
  generalize T.heap = h at *
  refine CallsH.of_code' (args := [_]) Try.func5 rfl rfl rfl rfl ?_
  simp (config := {maxSteps := 2000000, implicitDefEqProofs := false}) only [go_sem, ↓reduceIte, Nat.reduceEqDiff, Nat.reduceAdd, Nat.reduceMul, Nat.reduceLeDiff, Nat.reduceLT, Nat.reduceSub, IntWalk.iteOmega, IntWalk.toNatUp, reduceCtorEq, false_and, and_false, false_or, or_false, true_or, or_true, not_true_eq_false, not_false_eq_true, Bool.not_true, Bool.not_false, Bool.and_true, Bool.true_and, Bool.and_false, Bool.false_and, Bool.not_eq_true, beq_self_eq_true, Nat.add_zero, Int.reduceLE, Int.reduceLT, Int.reduceToNat, Int.reduceNeg]
  refine (octets_ok T _ _ _ s hl).use ?_
  rintro v1 h1 ⟨o1, b1⟩
  simp (config := {maxSteps := 2000000, implicitDefEqProofs := false}) only [go_sem, ↓reduceIte, Nat.reduceEqDiff, Nat.reduceAdd, Nat.reduceMul, Nat.reduceLeDiff, Nat.reduceLT, Nat.reduceSub, IntWalk.iteOmega, IntWalk.toNatUp, reduceCtorEq, false_and, and_false, false_or, or_false, true_or, or_true, not_true_eq_false, not_false_eq_true, Bool.not_true, Bool.not_false, Bool.and_true, Bool.true_and, Bool.and_false, Bool.false_and, Bool.not_eq_true, beq_self_eq_true, Nat.add_zero, Int.reduceLE, Int.reduceLT, Int.reduceToNat, Int.reduceNeg]
  refine (point_ok T _ _ l o1.bs).use ?_
  rintro _ h4 ⟨⟨w4, rfl, o4⟩, b4⟩
  have B4 := b1.trans (b4.mono b1.size)
  obtain ⟨E, hE⟩ : ∃ E, E = shE l base9 (curveF l base9) := ⟨_, rfl⟩
  rw [← hE] at o4 ⊢
  simp (config := {maxSteps := 2000000, implicitDefEqProofs := false}) only [go_sem, ↓reduceIte, Nat.reduceEqDiff, Nat.reduceAdd, Nat.reduceMul, Nat.reduceLeDiff, Nat.reduceLT, Nat.reduceSub, IntWalk.iteOmega, IntWalk.toNatUp, reduceCtorEq, false_and, and_false, false_or, or_false, true_or, or_true, not_true_eq_false, not_false_eq_true, Bool.not_true, Bool.not_false, Bool.and_true, Bool.true_and, Bool.and_false, Bool.false_and, Bool.not_eq_true, beq_self_eq_true, Nat.add_zero, Int.reduceLE, Int.reduceLT, Int.reduceToNat, Int.reduceNeg]
  refine (pointOf_ok T _ _ l (s.bel B4)).use ?_
  rintro _ h5 ⟨⟨w5, rfl, o5⟩, b5⟩
  rw [← hE] at o5 ⊢
  simp (config := {maxSteps := 2000000, implicitDefEqProofs := false}) only [go_sem, ↓reduceIte, Nat.reduceEqDiff, Nat.reduceAdd, Nat.reduceMul, Nat.reduceLeDiff, Nat.reduceLT, Nat.reduceSub, IntWalk.iteOmega, IntWalk.toNatUp, reduceCtorEq, false_and, and_false, false_or, or_false, true_or, or_true, not_true_eq_false, not_false_eq_true, Bool.not_true, Bool.not_false, Bool.and_true, Bool.true_and, Bool.and_false, Bool.false_and, Bool.not_eq_true, beq_self_eq_true, Nat.add_zero, Int.reduceLE, Int.reduceLT, Int.reduceToNat, Int.reduceNeg]
  refine (sameBytes_ok T _ _ _ _ _ (o4.bs.bel b5) o5.bs).pure ?_
  simp (config := {maxSteps := 2000000, implicitDefEqProofs := false}) only [go_sem, ↓reduceIte, Nat.reduceEqDiff, Nat.reduceAdd, Nat.reduceMul, Nat.reduceLeDiff, Nat.reduceLT, Nat.reduceSub, IntWalk.iteOmega, IntWalk.toNatUp, reduceCtorEq, false_and, and_false, false_or, or_false, true_or, or_true, not_true_eq_false, not_false_eq_true, Bool.not_true, Bool.not_false, Bool.and_true, Bool.true_and, Bool.and_false, Bool.false_and, Bool.not_eq_true, beq_self_eq_true, Nat.add_zero, Int.reduceLE, Int.reduceLT, Int.reduceToNat, Int.reduceNeg]
  exact B4.trans (b5.mono B4.size)
theorem curvePoints_lifted (os : Os) (started : os.Started) (H : Type) (enc : TypeId × Value → H) :
    ReturnsInHanded {} Try.checked os 5 .any (Rows.curvePointsSpec.pre6 enc Try.prog Try.f5 Rows.curvePointsRow.domain false) (Rows.curvePointsSpec.post enc Try.prog Try.f5 false true false false) :=
  law_lifted (C := Try.checked) ownKnobT started (by kernel_rfl) Try.func5
    (ChangeSpec.witness6 (enc := enc) (C := Try.checked) false ⟨#[], #[.slice none 0 0], []⟩ 12 (by kernel_rfl) (by kernel_rfl) (by kernel_rfl) (by kernel_rfl))
    laidOutT (by kernel_rfl) (by kernel_rfl) (tb := 4) rfl Try.underlying4 rfl (fun ds hd => by
      have hl : ds.length = 1 := hd
      match ds, hl with
      | [d0], _ => rfl) curvePoints_ok
theorem curvePoints_holds : Rows.CurvePointsSaid :=
  OpenClaim.holds_of_wide 5 Try.f5 rfl rfl rfl rfl rfl rfl rfl ⟨rfl, rfl, rfl, rfl, rfl⟩ rfl rfl rfl rfl rfl (by kernel_rfl) Try.func5 (show joinedFacts Try.prog 5 Try.f5 Rows.curvePointsSpec Rows.curvePointsRow = true by unfold joinedFacts; rw [makeT, enterT, liftsT]; kernel_rfl)
    (of_decide_eq_true (by kernel_rfl)) (by unfold Func.isWrapper; rw [if_neg (of_decide_eq_false (by kernel_rfl))]; exact ⟨rfl, rfl⟩)
    (fun os started H enc _ => curvePoints_lifted os started H enc)
end Go.Proofs.Ytiakfdpmapmifaa
