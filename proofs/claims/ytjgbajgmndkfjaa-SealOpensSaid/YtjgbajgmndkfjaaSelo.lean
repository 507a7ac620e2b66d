/- SealOpens holds: seal.Open answers what the document says, at every argument, and changes none of them; without any condition. -/
import Derived.Test.YtjgbajgmndkfjaaSel
namespace Go.Proofs.Ytjgbajgmndkfjaa
open Go Go.V
set_option linter.unusedSimpArgs false
set_option linter.unusedVariables false
set_option maxRecDepth 100000
theorem sealOpens_ok : LawOk Try.prog 25 Try.f25.params.toList := by
  intro T args hfit
  rw [show Try.f25.params.toList = [26, 26, 26, 26] from rfl] at hfit
  obtain ⟨v, _, rfl, ⟨k1, h1⟩, hfit⟩ := fitAll_cons hfit
  obtain ⟨u, _, rfl, ⟨k2, h2⟩, hfit⟩ := fitAll_cons hfit
  obtain ⟨kn, _, rfl, ⟨k3, h3⟩, hfit⟩ := fitAll_cons hfit
  obtain ⟨sv, _, rfl, ⟨k4, h4⟩, hfit⟩ := fitAll_cons hfit
  obtain rfl := fitAll_nil hfit
  obtain ⟨l, s, hl⟩ := fit_bytes Try.underlying26 Try.underlying5 (by kernel_rfl) (by kernel_rfl) (fitV_one ta26 h1)
  obtain ⟨n, sn, hn⟩ := fit_bytes Try.underlying26 Try.underlying5 (by kernel_rfl) (by kernel_rfl) (fitV_one ta26 h2)
  obtain ⟨w, sw, hw⟩ := fit_bytes Try.underlying26 Try.underlying5 (by kernel_rfl) (by kernel_rfl) (fitV_one ta26 h3)
  obtain ⟨d, sd, hd⟩ := fit_bytes Try.underlying26 Try.underlying5 (by kernel_rfl) (by kernel_rfl) (fitV_one ta26 h4)
  have c4 := fit_cap Try.underlying26 (fitV_one ta26 h4)
  generalize T.heap = h at *
  refine CallsH.of_code' (args := [_, _, _, _]) Try.func25 rfl rfl rfl rfl ?_
  simp (config := {maxSteps := 2000000, implicitDefEqProofs := false}) only [go_sem, ↓reduceIte, Nat.reduceEqDiff, Nat.reduceAdd, Nat.reduceMul, Nat.reduceLeDiff, Nat.reduceLT, Nat.reduceSub, IntWalk.iteOmega, IntWalk.toNatUp, reduceCtorEq, false_and, and_false, false_or, or_false, true_or, or_true, not_true_eq_false, not_false_eq_true, Bool.not_true, Bool.not_false, Bool.and_true, Bool.true_and, Bool.and_false, Bool.false_and, Bool.not_eq_true, beq_self_eq_true, Nat.add_zero, Int.reduceLE, Int.reduceLT, Int.reduceToNat, Int.reduceNeg]
  refine (octets_ok T _ _ _ sd hd).use ?_
  rintro v0 h0 ⟨o0, b0⟩
  simp (config := {maxSteps := 2000000, implicitDefEqProofs := false}) only [go_sem, ↓reduceIte, Nat.reduceEqDiff, Nat.reduceAdd, Nat.reduceMul, Nat.reduceLeDiff, Nat.reduceLT, Nat.reduceSub, IntWalk.iteOmega, IntWalk.toNatUp, reduceCtorEq, false_and, and_false, false_or, or_false, true_or, or_true, not_true_eq_false, not_false_eq_true, Bool.not_true, Bool.not_false, Bool.and_true, Bool.true_and, Bool.and_false, Bool.false_and, Bool.not_eq_true, beq_self_eq_true, Nat.add_zero, Int.reduceLE, Int.reduceLT, Int.reduceToNat, Int.reduceNeg]
  refine (octets_ok T _ _ _ (s.bel b0) hl).use ?_
  rintro v1 h1 ⟨o1, b1⟩
  have B1 := b0.trans (b1.mono b0.size)
  simp (config := {maxSteps := 2000000, implicitDefEqProofs := false}) only [go_sem, ↓reduceIte, Nat.reduceEqDiff, Nat.reduceAdd, Nat.reduceMul, Nat.reduceLeDiff, Nat.reduceLT, Nat.reduceSub, IntWalk.iteOmega, IntWalk.toNatUp, reduceCtorEq, false_and, and_false, false_or, or_false, true_or, or_true, not_true_eq_false, not_false_eq_true, Bool.not_true, Bool.not_false, Bool.and_true, Bool.true_and, Bool.and_false, Bool.false_and, Bool.not_eq_true, beq_self_eq_true, Nat.add_zero, Int.reduceLE, Int.reduceLT, Int.reduceToNat, Int.reduceNeg]
  refine (octets_ok T _ _ _ (sn.bel B1) hn).use ?_
  rintro v2 h2 ⟨o2, b2⟩
  have B2 := B1.trans (b2.mono B1.size)
  simp (config := {maxSteps := 2000000, implicitDefEqProofs := false}) only [go_sem, ↓reduceIte, Nat.reduceEqDiff, Nat.reduceAdd, Nat.reduceMul, Nat.reduceLeDiff, Nat.reduceLT, Nat.reduceSub, IntWalk.iteOmega, IntWalk.toNatUp, reduceCtorEq, false_and, and_false, false_or, or_false, true_or, or_true, not_true_eq_false, not_false_eq_true, Bool.not_true, Bool.not_false, Bool.and_true, Bool.true_and, Bool.and_false, Bool.false_and, Bool.not_eq_true, beq_self_eq_true, Nat.add_zero, Int.reduceLE, Int.reduceLT, Int.reduceToNat, Int.reduceNeg]
  refine (octets_ok T _ _ _ (sw.bel B2) hw).use ?_
  rintro v3 h3 ⟨o3, b3⟩
  have B3 := B2.trans (b3.mono B2.size)
  simp (config := {maxSteps := 2000000, implicitDefEqProofs := false}) only [go_sem, ↓reduceIte, Nat.reduceEqDiff, Nat.reduceAdd, Nat.reduceMul, Nat.reduceLeDiff, Nat.reduceLT, Nat.reduceSub, IntWalk.iteOmega, IntWalk.toNatUp, reduceCtorEq, false_and, and_false, false_or, or_false, true_or, or_true, not_true_eq_false, not_false_eq_true, Bool.not_true, Bool.not_false, Bool.and_true, Bool.true_and, Bool.and_false, Bool.false_and, Bool.not_eq_true, beq_self_eq_true, Nat.add_zero, Int.reduceLE, Int.reduceLT, Int.reduceToNat, Int.reduceNeg]
  refine (open_ok T _ _ _ _ _ l n w d ((o1.bs.bel b2).bel b3) (o2.bs.bel b3) o3.bs (((o0.bs.bel b1).bel b2).bel b3) o1.cap o2.cap o0.cap).use ?_
  rintro _ h4 ⟨⟨w4, rfl, o4⟩, b4⟩
  have B4 := B3.trans (b4.mono B3.size)
  obtain ⟨E, hE⟩ : ∃ E, E = openErr l n w d := ⟨_, rfl⟩
  rw [← hE] at o4 ⊢
  simp (config := {maxSteps := 2000000, implicitDefEqProofs := false}) only [go_sem, ↓reduceIte, Nat.reduceEqDiff, Nat.reduceAdd, Nat.reduceMul, Nat.reduceLeDiff, Nat.reduceLT, Nat.reduceSub, IntWalk.iteOmega, IntWalk.toNatUp, reduceCtorEq, false_and, and_false, false_or, or_false, true_or, or_true, not_true_eq_false, not_false_eq_true, Bool.not_true, Bool.not_false, Bool.and_true, Bool.true_and, Bool.and_false, Bool.false_and, Bool.not_eq_true, beq_self_eq_true, Nat.add_zero, Int.reduceLE, Int.reduceLT, Int.reduceToNat, Int.reduceNeg]
  refine (opened_ok T _ _ _ _ _ l n w d (s.bel B4) (sn.bel B4) (sw.bel B4) (sd.bel B4) c4).use ?_
  rintro _ h5 ⟨⟨w5, rfl, o5⟩, b5⟩
  have B5 := B4.trans (b5.mono B4.size)
  rw [← hE] at o5 ⊢
  simp (config := {maxSteps := 2000000, implicitDefEqProofs := false}) only [go_sem, ↓reduceIte, Nat.reduceEqDiff, Nat.reduceAdd, Nat.reduceMul, Nat.reduceLeDiff, Nat.reduceLT, Nat.reduceSub, IntWalk.iteOmega, IntWalk.toNatUp, reduceCtorEq, false_and, and_false, false_or, or_false, true_or, or_true, not_true_eq_false, not_false_eq_true, Bool.not_true, Bool.not_false, Bool.and_true, Bool.true_and, Bool.and_false, Bool.false_and, Bool.not_eq_true, beq_self_eq_true, Nat.add_zero, Int.reduceLE, Int.reduceLT, Int.reduceToNat, Int.reduceNeg]
  refine (sameBytes_ok T _ _ _ _ _ (o4.bs.bel b5) o5.bs).pure ?_
  simp (config := {maxSteps := 2000000, implicitDefEqProofs := false}) only [go_sem, ↓reduceIte, Nat.reduceEqDiff, Nat.reduceAdd, Nat.reduceMul, Nat.reduceLeDiff, Nat.reduceLT, Nat.reduceSub, IntWalk.iteOmega, IntWalk.toNatUp, reduceCtorEq, false_and, and_false, false_or, or_false, true_or, or_true, not_true_eq_false, not_false_eq_true, Bool.not_true, Bool.not_false, Bool.and_true, Bool.true_and, Bool.and_false, Bool.false_and, Bool.not_eq_true, beq_self_eq_true, Nat.add_zero, Int.reduceLE, Int.reduceLT, Int.reduceToNat, Int.reduceNeg]
  refine (sameBytes_ok T _ _ _ _ _ (((((o0.bs.bel b1).bel b2).bel b3).bel b4).bel b5) (sd.bel B5)).pure ?_
  simp (config := {maxSteps := 2000000, implicitDefEqProofs := false}) only [go_sem, ↓reduceIte, Nat.reduceEqDiff, Nat.reduceAdd, Nat.reduceMul, Nat.reduceLeDiff, Nat.reduceLT, Nat.reduceSub, IntWalk.iteOmega, IntWalk.toNatUp, reduceCtorEq, false_and, and_false, false_or, or_false, true_or, or_true, not_true_eq_false, not_false_eq_true, Bool.not_true, Bool.not_false, Bool.and_true, Bool.true_and, Bool.and_false, Bool.false_and, Bool.not_eq_true, beq_self_eq_true, Nat.add_zero, Int.reduceLE, Int.reduceLT, Int.reduceToNat, Int.reduceNeg]
  exact B5
theorem sealOpens_lifted (os : Os) (started : os.Started) (H : Type) (enc : TypeId × Value → H) :
    ReturnsInHanded {} Try.checked os 25 .any (Rows.sealOpensSpec.pre6 enc Try.prog Try.f25 Rows.sealOpensRow.domain false) (Rows.sealOpensSpec.post enc Try.prog Try.f25 false true false false) :=
  law_lifted (C := Try.checked) ownKnobT started (by kernel_rfl) Try.func25
    (ChangeSpec.witness6 (enc := enc) (C := Try.checked) false ⟨#[], #[.slice none 0 0, .slice none 0 0, .slice none 0 0, .slice none 0 0], []⟩ 12 (by kernel_rfl) (by kernel_rfl) (by kernel_rfl) (by kernel_rfl))
    laidOutT (by kernel_rfl) (by kernel_rfl) (tb := 4) rfl Try.underlying4 rfl (fun ds hd => by
      have hl : ds.length = 4 := hd
      match ds, hl with
      | [d0, d1, d2, d3], _ => rfl) sealOpens_ok
theorem sealOpens_holds : Rows.SealOpensSaid :=
  OpenClaim.holds_of_wide 25 Try.f25 rfl rfl rfl rfl rfl rfl rfl ⟨rfl, rfl, rfl, rfl, rfl⟩ rfl rfl rfl rfl rfl (by kernel_rfl) Try.func25 (show joinedFacts Try.prog 25 Try.f25 Rows.sealOpensSpec Rows.sealOpensRow = true by unfold joinedFacts; rw [makeT, enterT, liftsT]; kernel_rfl)
    (of_decide_eq_true (by kernel_rfl)) (by unfold Func.isWrapper; rw [if_neg (of_decide_eq_false (by kernel_rfl))]; exact ⟨rfl, rfl⟩)
    (fun os started H enc _ => sealOpens_lifted os started H enc)
end Go.Proofs.Ytjgbajgmndkfjaa
