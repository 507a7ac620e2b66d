/- LineChecks holds: line.Check answers what the document says, at every argument; without any condition. -/
import Derived.Test.YtjgbajgmndkfjaaLine
namespace Go.Proofs.Ytjgbajgmndkfjaa
open Go Go.V
set_option linter.unusedSimpArgs false
set_option linter.unusedVariables false
set_option maxRecDepth 100000
theorem fitL_boolList {h : Hp} {cs : List Value} (hf : fitL Try.prog h (rep 8 [4]) cs) : ∃ s : List Bool, s.length = 8 ∧ cs = s.map Value.bool := by
  have hl := fitL_length hf
  have hb := fitL_bools (a := 0) (n := 8) hf (by kernel_rfl)
  have hl : cs.length = 8 := hl
  refine ⟨(List.range 8).map (cb cs), by simp, ?_⟩
  apply List.ext_getElem?
  intro i
  by_cases hi : i < 8
  · have := hb i (by omega) (by omega)
    rw [nth_eq] at this
    rw [this]
    simp [hi]
  · rw [List.getElem?_eq_none (by omega), List.getElem?_eq_none (by simp; omega)]
theorem lineChecks_ok : LawOk Try.prog 6 Try.f6.params.toList := by
  intro T args hfit
  rw [show Try.f6.params.toList = [39] from rfl] at hfit
  obtain ⟨v, _, rfl, ⟨k1, h1⟩, hfit⟩ := fitAll_cons hfit
  obtain rfl := fitAll_nil hfit
  obtain ⟨cs, rfl, hl, hf⟩ := fitV_struct (l := 26 :: rep 2 [3] ++ rep 8 [4]) Try.underlying39 (by kernel_rfl) (by kernel_rfl) h1
  obtain ⟨v, cs, k2, rfl, hk, hf⟩ := fitL_cell hf
  obtain ⟨kl, s, hkl⟩ := fit_bytes Try.underlying26 Try.underlying5 (by kernel_rfl) (by kernel_rfl) hk
  obtain ⟨sent, _, rfl, r1, r2, hf⟩ := fitL_int Try.underlying3 hf
  obtain ⟨top, cs, rfl, _, _, hf⟩ := fitL_int Try.underlying3 hf
  obtain ⟨sb, hsb, rfl⟩ := fitL_boolList hf
  generalize T.heap = h at *
  refine CallsH.of_code' (args := [_]) Try.func6 rfl rfl rfl rfl ?_
  have hs' : (sb.map Value.bool).length = 8 := by rw [List.length_map, hsb]
  have tk := take_len hs'
  have hone : (sb.map Value.bool).all oneC = true := fitK_one (bools_fit sb hsb)
  simp (config := {contextual := true, maxSteps := 2000000, implicitDefEqProofs := false}) only [go_sem, ↓reduceIte, Nat.reduceEqDiff, Nat.reduceAdd, Nat.reduceMul, Nat.reduceLeDiff, Nat.reduceLT, Nat.reduceSub, IntWalk.iteOmega, IntWalk.toNatUp, reduceCtorEq, false_and, and_false, false_or, or_false, true_or, or_true, not_true_eq_false, not_false_eq_true, Bool.not_true, Bool.not_false, Bool.and_true, Bool.true_and, Bool.and_false, Bool.false_and, Bool.not_eq_true, beq_self_eq_true, Nat.add_zero, Int.reduceLE, Int.reduceLT, Int.reduceToNat, Int.reduceNeg, hs', tk]
  refine (channels_ok T _ v kl sent top sb hsb (s.bel (Bel.push (Nat.le_refl _) _)) hkl).use ?_
  rintro _ h1 ⟨⟨w, rfl, o1⟩, b1⟩
  obtain ⟨p2, c2, rfl, _⟩ := o1.open
  simp (config := {contextual := true, maxSteps := 2000000, implicitDefEqProofs := false}) only [go_sem, ↓reduceIte, Nat.reduceEqDiff, Nat.reduceAdd, Nat.reduceMul, Nat.reduceLeDiff, Nat.reduceLT, Nat.reduceSub, IntWalk.iteOmega, IntWalk.toNatUp, reduceCtorEq, false_and, and_false, false_or, or_false, true_or, or_true, not_true_eq_false, not_false_eq_true, Bool.not_true, Bool.not_false, Bool.and_true, Bool.true_and, Bool.and_false, Bool.false_and, Bool.not_eq_true, beq_self_eq_true, Nat.add_zero, Int.reduceLE, Int.reduceLT, Int.reduceToNat, Int.reduceNeg]
  refine (lineCheck_ok T _ _ _ _ _ _ _ hsb).use ?_
  rintro _ h2 ⟨rfl, b2⟩
  have x0 : h1[h.size]? = some (.cells (chanC v sent top sb).toArray 39) := b1.get (by simp) get_push_last
  have x2 := b2.get (lt_of_get x0) x0
  have y2 := rd_last x2 (chanC_length _ _ _ _ hsb)
  simp (config := {contextual := true, maxSteps := 2000000, implicitDefEqProofs := false}) only [go_sem, ↓reduceIte, Nat.reduceEqDiff, Nat.reduceAdd, Nat.reduceMul, Nat.reduceLeDiff, Nat.reduceLT, Nat.reduceSub, IntWalk.iteOmega, IntWalk.toNatUp, reduceCtorEq, false_and, and_false, false_or, or_false, true_or, or_true, not_true_eq_false, not_false_eq_true, Bool.not_true, Bool.not_false, Bool.and_true, Bool.true_and, Bool.and_false, Bool.false_and, Bool.not_eq_true, beq_self_eq_true, Nat.add_zero, Int.reduceLE, Int.reduceLT, Int.reduceToNat, Int.reduceNeg, y2]
  have hb : Bel h.size h h2 := ((Bel.push (Nat.le_refl _) _).trans (b1.mono (by simp))).trans (b2.mono (Nat.le_of_lt (lt_of_get x0)))
  refine (channelFault_ok T _ _ kl sent top sb hsb (s.bel hb) hkl ⟨by assumption, by assumption⟩).use ?_
  rintro _ h3 ⟨rfl, b3⟩
  simp (config := {contextual := true, maxSteps := 2000000, implicitDefEqProofs := false}) only [go_sem, ↓reduceIte, Nat.reduceEqDiff, Nat.reduceAdd, Nat.reduceMul, Nat.reduceLeDiff, Nat.reduceLT, Nat.reduceSub, IntWalk.iteOmega, IntWalk.toNatUp, reduceCtorEq, false_and, and_false, false_or, or_false, true_or, or_true, not_true_eq_false, not_false_eq_true, Bool.not_true, Bool.not_false, Bool.and_true, Bool.true_and, Bool.and_false, Bool.false_and, Bool.not_eq_true, beq_self_eq_true, Nat.add_zero, Int.reduceLE, Int.reduceLT, Int.reduceToNat, Int.reduceNeg]
  exact hb.trans (b3.mono hb.size)
theorem lineChecks_lifted (os : Os) (started : os.Started) (H : Type) (enc : TypeId × Value → H) :
    ReturnsInHanded {} Try.checked os 6 .any (Rows.lineChecksSpec.pre6 enc Try.prog Try.f6 Rows.lineChecksRow.domain false) (Rows.lineChecksSpec.post enc Try.prog Try.f6 false true false false) :=
  law_lifted (C := Try.checked) ownKnobT started (by kernel_rfl) Try.func6
    (ChangeSpec.witness6 (enc := enc) (C := Try.checked) false ⟨#[], #[.agg (Value.slice none 0 0 :: rep 2 [Value.int .i64 0] ++ rep 8 [Value.bool false]).toArray], []⟩ 12 (by kernel_rfl) (by kernel_rfl) (by kernel_rfl) (by kernel_rfl))
    laidOutT (by kernel_rfl) (by kernel_rfl) (tb := 4) rfl Try.underlying4 rfl (fun ds hd => by
      have hl : ds.length = 1 := hd
      match ds, hl with
      | [d0], _ => rfl) lineChecks_ok
theorem lineChecks_holds : Rows.LineChecksSaid :=
  OpenClaim.holds_of_wide 6 Try.f6 rfl rfl rfl rfl rfl rfl rfl ⟨rfl, rfl, rfl, rfl, rfl⟩ rfl rfl rfl rfl rfl (by kernel_rfl) Try.func6 (show joinedFacts Try.prog 6 Try.f6 Rows.lineChecksSpec Rows.lineChecksRow = true by unfold joinedFacts; rw [makeT, enterT, liftsT]; kernel_rfl)
    (of_decide_eq_true (by kernel_rfl)) (by unfold Func.isWrapper; rw [if_neg (of_decide_eq_false (by kernel_rfl))]; exact ⟨rfl, rfl⟩)
    (fun os started H enc _ => lineChecks_lifted os started H enc)
end Go.Proofs.Ytjgbajgmndkfjaa
