/- LineNews holds: line.New answers what the document says, at every argument; without any condition. -/
import Derived.Test.YtjgbajgmndkfjaaLine
namespace Go.Proofs.Ytjgbajgmndkfjaa
open Go Go.V
set_option linter.unusedSimpArgs false
set_option linter.unusedVariables false
set_option maxRecDepth 100000
theorem lineNews_ok : LawOk Try.prog 7 Try.f7.params.toList := by
  intro T args hfit
  rw [show Try.f7.params.toList = [26] from rfl] at hfit
  obtain ⟨v, _, rfl, ⟨k1, h1⟩, hfit⟩ := fitAll_cons hfit
  obtain rfl := fitAll_nil hfit
  obtain ⟨l, s, hl⟩ := fit_bytes Try.underlying26 Try.underlying5 (by kernel_rfl) (by kernel_rfl) (fitV_one ta26 h1)
  generalize T.heap = h at *
  refine CallsH.of_code' (args := [_]) Try.func7 rfl rfl rfl rfl ?_
  simp (config := {contextual := true, maxSteps := 2000000, implicitDefEqProofs := false}) only [go_sem, ↓reduceIte, Nat.reduceEqDiff, Nat.reduceAdd, Nat.reduceMul, Nat.reduceLeDiff, Nat.reduceLT, Nat.reduceSub, IntWalk.iteOmega, IntWalk.toNatUp, reduceCtorEq, false_and, and_false, false_or, or_false, true_or, or_true, not_true_eq_false, not_false_eq_true, Bool.not_true, Bool.not_false, Bool.and_true, Bool.true_and, Bool.and_false, Bool.false_and, Bool.not_eq_true, beq_self_eq_true, Nat.add_zero, Int.reduceLE, Int.reduceLT, Int.reduceToNat, Int.reduceNeg]
  refine (octets_ok T _ _ _ s hl).use ?_
  rintro v1 h1 ⟨o1, b1⟩
  simp (config := {contextual := true, maxSteps := 2000000, implicitDefEqProofs := false}) only [go_sem, ↓reduceIte, Nat.reduceEqDiff, Nat.reduceAdd, Nat.reduceMul, Nat.reduceLeDiff, Nat.reduceLT, Nat.reduceSub, IntWalk.iteOmega, IntWalk.toNatUp, reduceCtorEq, false_and, and_false, false_or, or_false, true_or, or_true, not_true_eq_false, not_false_eq_true, Bool.not_true, Bool.not_false, Bool.and_true, Bool.true_and, Bool.and_false, Bool.false_and, Bool.not_eq_true, beq_self_eq_true, Nat.add_zero, Int.reduceLE, Int.reduceLT, Int.reduceToNat, Int.reduceNeg]
  refine (new_ok T _ _ _ o1.bs hl).use ?_
  rintro _ h2 ⟨⟨_, rfl, w2, rfl, o2⟩, b2⟩
  obtain ⟨p2, c2, rfl, _⟩ := o2.open
  obtain ⟨E, hE⟩ : ∃ E : Int, E = if l.length = 32 then 0 else 1 := ⟨_, rfl⟩
  obtain ⟨K, hK⟩ : ∃ K : List Nat, K = if l.length = 32 then l else [] := ⟨_, rfl⟩
  rw [← hE]
  rw [← hK] at o2 ⊢
  obtain ⟨D, hD⟩ : ∃ D, D = chanC (.slice p2 K.length c2) 0 0 [false, false, false, false, false, false, false, false] := ⟨_, rfl⟩
  have d1 : D.length = 11 := by rw [hD]; exact chanC_length _ _ _ _ rfl
  have d2 : D.all oneC = true := by rw [hD]; exact chanC_one _ _ _
  have d3 : lput chanZ 0 D = D := lput_full (by rw [d1]; rfl)
  have d4 := take_len d1
  unfold chanZ at d3
  rw [← hD]
  simp (config := {contextual := true, maxSteps := 2000000, implicitDefEqProofs := false}) only [go_sem, ↓reduceIte, Nat.reduceEqDiff, Nat.reduceAdd, Nat.reduceMul, Nat.reduceLeDiff, Nat.reduceLT, Nat.reduceSub, IntWalk.iteOmega, IntWalk.toNatUp, reduceCtorEq, false_and, and_false, false_or, or_false, true_or, or_true, not_true_eq_false, not_false_eq_true, Bool.not_true, Bool.not_false, Bool.and_true, Bool.true_and, Bool.and_false, Bool.false_and, Bool.not_eq_true, beq_self_eq_true, Nat.add_zero, Int.reduceLE, Int.reduceLT, Int.reduceToNat, Int.reduceNeg, d1, d2, d3]
  refine (channelNew_ok T _ _ _ (s.bel (b1.trans ((b2.mono b1.size).addP (Nat.le_trans b1.size b2.size) _))) hl).use ?_
  rintro _ h3 ⟨⟨_, rfl, w3, rfl, o3⟩, b3⟩
  obtain ⟨p3, c3, rfl, _⟩ := o3.open
  rw [← hE]
  rw [← hK] at o3 ⊢
  obtain ⟨D', hD'⟩ : ∃ D', D' = chanC (.slice p3 K.length c3) 0 0 [false, false, false, false, false, false, false, false] := ⟨_, rfl⟩
  have e1 : D'.length = 11 := by rw [hD']; exact chanC_length _ _ _ _ rfl
  have e2 : D'.all oneC = true := by rw [hD']; exact chanC_one _ _ _
  have e3 : lput chanZ 0 D' = D' := lput_full (by rw [e1]; rfl)
  have e4 := take_len e1
  unfold chanZ at e3
  rw [← hD']
  have z1 := b1.size
  have z2 := b2.size
  have z3 : h2.size < h3.size := by have := b3.size; simp at this; omega
  have x2 : h3[h2.size]? = some (.cells D.toArray 39) := b3.get (by simp) get_push_last
  have y2 := rd_last x2 d1
  simp (config := {contextual := true, maxSteps := 2000000, implicitDefEqProofs := false}) only [go_sem, ↓reduceIte, Nat.reduceEqDiff, Nat.reduceAdd, Nat.reduceMul, Nat.reduceLeDiff, Nat.reduceLT, Nat.reduceSub, IntWalk.iteOmega, IntWalk.toNatUp, reduceCtorEq, false_and, and_false, false_or, or_false, true_or, or_true, not_true_eq_false, not_false_eq_true, Bool.not_true, Bool.not_false, Bool.and_true, Bool.true_and, Bool.and_false, Bool.false_and, Bool.not_eq_true, beq_self_eq_true, Nat.add_zero, Int.reduceLE, Int.reduceLT, Int.reduceToNat, Int.reduceNeg, e1, e2, e3, y2, d4, e4]
  rw [hD, hD']
  refine (sameChannel_ok T _ _ _ K K _ _ _ _ _ _ rfl rfl ?_ ?_).use ?_
  · exact (o2.bs.bel (((Bel.refl _ _).add _).trans (b3.mono (by simp)))).bel ((Bel.refl _ _).add _)
  · exact o3.bs.bel ((Bel.refl _ _).add _)
  rintro _ h4 ⟨rfl, b4⟩
  simp (config := {contextual := true, maxSteps := 2000000, implicitDefEqProofs := false}) only [go_sem, ↓reduceIte, Nat.reduceEqDiff, Nat.reduceAdd, Nat.reduceMul, Nat.reduceLeDiff, Nat.reduceLT, Nat.reduceSub, IntWalk.iteOmega, IntWalk.toNatUp, reduceCtorEq, false_and, and_false, false_or, or_false, true_or, or_true, not_true_eq_false, not_false_eq_true, Bool.not_true, Bool.not_false, Bool.and_true, Bool.true_and, Bool.and_false, Bool.false_and, Bool.not_eq_true, beq_self_eq_true, Nat.add_zero, Int.reduceLE, Int.reduceLT, Int.reduceToNat, Int.reduceNeg]
  exact ((b1.trans (b2.mono z1)).trans ((Bel.push (by omega) _).trans (b3.mono (by simp; omega)))).trans ((Bel.push (by omega) _).trans (b4.mono (by simp; omega)))
theorem lineNews_lifted (os : Os) (started : os.Started) (H : Type) (enc : TypeId × Value → H) :
    ReturnsInHanded {} Try.checked os 7 .any (Rows.lineNewsSpec.pre6 enc Try.prog Try.f7 Rows.lineNewsRow.domain false) (Rows.lineNewsSpec.post enc Try.prog Try.f7 false true false false) :=
  law_lifted (C := Try.checked) ownKnobT started (by kernel_rfl) Try.func7
    (ChangeSpec.witness6 (enc := enc) (C := Try.checked) false ⟨#[], #[.slice none 0 0], []⟩ 12 (by kernel_rfl) (by kernel_rfl) (by kernel_rfl) (by kernel_rfl))
    laidOutT (by kernel_rfl) (by kernel_rfl) (tb := 4) rfl Try.underlying4 rfl (fun ds hd => by
      have hl : ds.length = 1 := hd
      match ds, hl with
      | [d0], _ => rfl) lineNews_ok
theorem lineNews_holds : Rows.LineNewsSaid :=
  OpenClaim.holds_of_wide 7 Try.f7 rfl rfl rfl rfl rfl rfl rfl ⟨rfl, rfl, rfl, rfl, rfl⟩ rfl rfl rfl rfl rfl (by kernel_rfl) Try.func7 (show joinedFacts Try.prog 7 Try.f7 Rows.lineNewsSpec Rows.lineNewsRow = true by unfold joinedFacts; rw [makeT, enterT, liftsT]; kernel_rfl)
    (of_decide_eq_true (by kernel_rfl)) (by unfold Func.isWrapper; rw [if_neg (of_decide_eq_false (by kernel_rfl))]; exact ⟨rfl, rfl⟩)
    (fun os started H enc _ => lineNews_lifted os started H enc)
end Go.Proofs.Ytjgbajgmndkfjaa
