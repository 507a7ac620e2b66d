/- OrderEncodes holds: order.Encode answers what the document says, at every argument; without any condition. -/
import Derived.Test.YtjgbajgmndkfjaaEnc
namespace Go.Proofs.Ytjgbajgmndkfjaa
open Go Go.V
set_option linter.unusedSimpArgs false
set_option linter.unusedVariables false
set_option maxRecDepth 100000
theorem orderEncodes_ok : LawOk Try.prog 12 Try.f12.params.toList := by
  intro T args hfit
  rw [show Try.f12.params.toList = [48] from rfl] at hfit
  obtain ⟨v, _, rfl, ⟨k1, h1⟩, hfit⟩ := fitAll_cons hfit
  obtain rfl := fitAll_nil hfit
  obtain ⟨cs, rfl, hl, hf⟩ := fitV_struct (l := rep 5 [3]) Try.underlying48 (by kernel_rfl) (by kernel_rfl) h1
  obtain ⟨k, _, rfl, _, _, hf⟩ := fitL_int Try.underlying3 hf
  obtain ⟨c, _, rfl, _, _, hf⟩ := fitL_int Try.underlying3 hf
  obtain ⟨s, _, rfl, _, _, hf⟩ := fitL_int Try.underlying3 hf
  obtain ⟨n, _, rfl, _, _, hf⟩ := fitL_int Try.underlying3 hf
  obtain ⟨v, _, rfl, _, _, hf⟩ := fitL_int Try.underlying3 hf
  obtain rfl := fitL_nil hf
  generalize T.heap = h at *
  refine CallsH.of_code' (args := [_]) Try.func12 rfl rfl rfl rfl ?_
  simp (config := {contextual := true, maxSteps := 2000000, implicitDefEqProofs := false}) only [go_sem, ↓reduceIte, Nat.reduceEqDiff, Nat.reduceAdd, Nat.reduceMul, Nat.reduceLeDiff, Nat.reduceLT, Nat.reduceSub, IntWalk.iteOmega, IntWalk.toNatUp, reduceCtorEq, false_and, and_false, false_or, or_false, true_or, or_true, not_true_eq_false, not_false_eq_true, Bool.not_true, Bool.not_false, Bool.and_true, Bool.true_and, Bool.and_false, Bool.false_and, Bool.not_eq_true, beq_self_eq_true, Nat.add_zero, Int.reduceLE, Int.reduceLT, Int.reduceToNat, Int.reduceNeg]
  refine (encode_ok T _ k c s n v).use ?_
  rintro _ h1 ⟨⟨w1, rfl, o1⟩, b1⟩
  have k1 : rd h1 ⟨h.size, 0, none⟩ 5 = some [.int .i64 k, .int .i64 c, .int .i64 s, .int .i64 n, .int .i64 v] := by
    rw [rd_bel (b1.mono (B' := h.size + 1) (by simp)) (by simp), rd_push, if_pos rfl, if_pos (by simp)]
    simp only [List.drop_zero, List.take_succ_cons, List.take_zero]
  simp (config := {contextual := true, maxSteps := 2000000, implicitDefEqProofs := false}) only [go_sem, ↓reduceIte, Nat.reduceEqDiff, Nat.reduceAdd, Nat.reduceMul, Nat.reduceLeDiff, Nat.reduceLT, Nat.reduceSub, IntWalk.iteOmega, IntWalk.toNatUp, reduceCtorEq, false_and, and_false, false_or, or_false, true_or, or_true, not_true_eq_false, not_false_eq_true, Bool.not_true, Bool.not_false, Bool.and_true, Bool.true_and, Bool.and_false, Bool.false_and, Bool.not_eq_true, beq_self_eq_true, Nat.add_zero, Int.reduceLE, Int.reduceLT, Int.reduceToNat, Int.reduceNeg, k1]
  refine (commandBytes_ok T _ k c s n v).use ?_
  rintro _ h2 ⟨⟨w2, rfl, o2⟩, b2⟩
  simp (config := {contextual := true, maxSteps := 2000000, implicitDefEqProofs := false}) only [go_sem, ↓reduceIte, Nat.reduceEqDiff, Nat.reduceAdd, Nat.reduceMul, Nat.reduceLeDiff, Nat.reduceLT, Nat.reduceSub, IntWalk.iteOmega, IntWalk.toNatUp, reduceCtorEq, false_and, and_false, false_or, or_false, true_or, or_true, not_true_eq_false, not_false_eq_true, Bool.not_true, Bool.not_false, Bool.and_true, Bool.true_and, Bool.and_false, Bool.false_and, Bool.not_eq_true, beq_self_eq_true, Nat.add_zero, Int.reduceLE, Int.reduceLT, Int.reduceToNat, Int.reduceNeg]
  refine (sameBytes_ok T _ _ _ _ _ (o1.bel b2) o2).pure ?_
  simp (config := {contextual := true, maxSteps := 2000000, implicitDefEqProofs := false}) only [go_sem, ↓reduceIte, Nat.reduceEqDiff, Nat.reduceAdd, Nat.reduceMul, Nat.reduceLeDiff, Nat.reduceLT, Nat.reduceSub, IntWalk.iteOmega, IntWalk.toNatUp, reduceCtorEq, false_and, and_false, false_or, or_false, true_or, or_true, not_true_eq_false, not_false_eq_true, Bool.not_true, Bool.not_false, Bool.and_true, Bool.true_and, Bool.and_false, Bool.false_and, Bool.not_eq_true, beq_self_eq_true, Nat.add_zero, Int.reduceLE, Int.reduceLT, Int.reduceToNat, Int.reduceNeg]
  exact ((Bel.refl _ _).add _).trans (b1.mono (by simp)) |>.trans (b2.mono (by have := b1.size; simp at this; omega))
theorem orderEncodes_lifted (os : Os) (started : os.Started) (H : Type) (enc : TypeId × Value → H) :
    ReturnsInHanded {} Try.checked os 12 .any (Rows.orderEncodesSpec.pre6 enc Try.prog Try.f12 Rows.orderEncodesRow.domain false) (Rows.orderEncodesSpec.post enc Try.prog Try.f12 false true false false) :=
  law_lifted (C := Try.checked) ownKnobT started (by kernel_rfl) Try.func12
    (ChangeSpec.witness6 (enc := enc) (C := Try.checked) false ⟨#[], #[.agg (rep 5 [Value.int .i64 0]).toArray], []⟩ 12 (by kernel_rfl) (by kernel_rfl) (by kernel_rfl) (by kernel_rfl))
    laidOutT (by kernel_rfl) (by kernel_rfl) (tb := 4) rfl Try.underlying4 rfl (fun ds hd => by
      have hl : ds.length = 1 := hd
      match ds, hl with
      | [d0], _ => rfl) orderEncodes_ok
theorem orderEncodes_holds : Rows.OrderEncodesSaid :=
  OpenClaim.holds_of_wide 12 Try.f12 rfl rfl rfl rfl rfl rfl rfl ⟨rfl, rfl, rfl, rfl, rfl⟩ rfl rfl rfl rfl rfl (by kernel_rfl) Try.func12 (show joinedFacts Try.prog 12 Try.f12 Rows.orderEncodesSpec Rows.orderEncodesRow = true by unfold joinedFacts; rw [makeT, enterT, liftsT]; kernel_rfl)
    (of_decide_eq_true (by kernel_rfl)) (by unfold Func.isWrapper; rw [if_neg (of_decide_eq_false (by kernel_rfl))]; exact ⟨rfl, rfl⟩)
    (fun os started H enc _ => orderEncodes_lifted os started H enc)
end Go.Proofs.Ytjgbajgmndkfjaa
