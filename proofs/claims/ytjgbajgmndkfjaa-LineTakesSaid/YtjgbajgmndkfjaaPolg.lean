/- PolyTags holds: poly.Tag answers what the document says, at every argument; without any condition. -/
import Derived.Test.YtjgbajgmndkfjaaPolt
namespace Go.Proofs.Ytjgbajgmndkfjaa
open Go Go.V
set_option linter.unusedSimpArgs false
set_option linter.unusedVariables false
set_option maxRecDepth 100000
theorem polyTagE_ok (T : World) (h : Hp) (v u : Value) (key data : List Nat) (sk : Bs h v key) (sd : Bs h u data) (ck : Cap v) (cu : Cap u) :
    CallsH Try.prog T 67 #[v, u] h fun v' h' => TagRes h.size h' v' key data ∧ Bel h.size h h' := by
  obtain ⟨p, c, rfl, hkc⟩ := sk.open
  obtain ⟨q, d, rfl, hdc⟩ := sd.open
  refine CallsH.of_code' (args := [_, _]) Try.func67 rfl rfl rfl rfl ?_
  unfold TagRes
  by_cases hk : key.length = 32
  · by_cases hd : 4000 < data.length
    · have hd' : 4000 < (data.length : Int) := by omega
      have hk' : (key.length : Int) = 32 := by omega
      have e : tagErr key data = 1 := by unfold tagErr; rw [if_pos (.inr hd)]
      rw [e]
      simp (config := {maxSteps := 2000000, implicitDefEqProofs := false}) only [go_sem, ↓reduceIte, Nat.reduceEqDiff, Nat.reduceAdd, Nat.reduceMul, Nat.reduceLeDiff, Nat.reduceLT, Nat.reduceSub, IntWalk.iteOmega, IntWalk.toNatUp, reduceCtorEq, false_and, and_false, false_or, or_false, true_or, or_true, not_true_eq_false, not_false_eq_true, Bool.not_true, Bool.not_false, Bool.and_true, Bool.true_and, Bool.and_false, Bool.false_and, Bool.not_eq_true, beq_self_eq_true, Nat.add_zero, Int.reduceLE, Int.reduceLT, Int.reduceToNat, Int.reduceNeg, hd', hk']
      exact ⟨_, rfl, OBs.nil _ _ _⟩
    · have hd' : ¬ 4000 < (data.length : Int) := by omega
      have hk' : (key.length : Int) = 32 := by omega
      have e : tagErr key data = 0 := by unfold tagErr; rw [if_neg (by omega)]
      rw [e, if_pos rfl]
      simp (config := {maxSteps := 2000000, implicitDefEqProofs := false}) only [go_sem, ↓reduceIte, Nat.reduceEqDiff, Nat.reduceAdd, Nat.reduceMul, Nat.reduceLeDiff, Nat.reduceLT, Nat.reduceSub, IntWalk.iteOmega, IntWalk.toNatUp, reduceCtorEq, false_and, and_false, false_or, or_false, true_or, or_true, not_true_eq_false, not_false_eq_true, Bool.not_true, Bool.not_false, Bool.and_true, Bool.true_and, Bool.and_false, Bool.false_and, Bool.not_eq_true, beq_self_eq_true, Nat.add_zero, Int.reduceLE, Int.reduceLT, Int.reduceToNat, Int.reduceNeg, hd', hk']
      refine (polyTag_ok T _ _ _ key data sk sd hk (by omega) ck cu).use ?_
      rintro v1 h1 ⟨o1, b1⟩
      simp (config := {maxSteps := 2000000, implicitDefEqProofs := false}) only [go_sem, ↓reduceIte, Nat.reduceEqDiff, Nat.reduceAdd, Nat.reduceMul, Nat.reduceLeDiff, Nat.reduceLT, Nat.reduceSub, IntWalk.iteOmega, IntWalk.toNatUp, reduceCtorEq, false_and, and_false, false_or, or_false, true_or, or_true, not_true_eq_false, not_false_eq_true, Bool.not_true, Bool.not_false, Bool.and_true, Bool.true_and, Bool.and_false, Bool.false_and, Bool.not_eq_true, beq_self_eq_true, Nat.add_zero, Int.reduceLE, Int.reduceLT, Int.reduceToNat, Int.reduceNeg]
      exact ⟨⟨_, rfl, o1⟩, b1⟩
  · have hk' : ¬ (key.length : Int) = 32 := by omega
    have e : tagErr key data = 1 := by unfold tagErr; rw [if_pos (.inl hk)]
    rw [e]
    simp (config := {maxSteps := 2000000, implicitDefEqProofs := false}) only [go_sem, ↓reduceIte, Nat.reduceEqDiff, Nat.reduceAdd, Nat.reduceMul, Nat.reduceLeDiff, Nat.reduceLT, Nat.reduceSub, IntWalk.iteOmega, IntWalk.toNatUp, reduceCtorEq, false_and, and_false, false_or, or_false, true_or, or_true, not_true_eq_false, not_false_eq_true, Bool.not_true, Bool.not_false, Bool.and_true, Bool.true_and, Bool.and_false, Bool.false_and, Bool.not_eq_true, beq_self_eq_true, Nat.add_zero, Int.reduceLE, Int.reduceLT, Int.reduceToNat, Int.reduceNeg, hk']
    exact ⟨_, rfl, OBs.nil _ _ _⟩
theorem polyTags_ok : LawOk Try.prog 19 Try.f19.params.toList := by
  intro T args hfit
  rw [show Try.f19.params.toList = [26, 26] from rfl] at hfit
  obtain ⟨v, _, rfl, ⟨k1, h1⟩, hfit⟩ := fitAll_cons hfit
  obtain ⟨u, _, rfl, ⟨k2, h2⟩, hfit⟩ := fitAll_cons hfit
  obtain rfl := fitAll_nil hfit
  obtain ⟨l, s, hl⟩ := fit_bytes Try.underlying26 Try.underlying5 (by kernel_rfl) (by kernel_rfl) (fitV_one ta26 h1)
  obtain ⟨n, sn, hn⟩ := fit_bytes Try.underlying26 Try.underlying5 (by kernel_rfl) (by kernel_rfl) (fitV_one ta26 h2)
  have c1 := fit_cap Try.underlying26 (fitV_one ta26 h1)
  have c2 := fit_cap Try.underlying26 (fitV_one ta26 h2)
  generalize T.heap = h at *
  refine CallsH.of_code' (args := [_, _]) Try.func19 rfl rfl rfl rfl ?_
  simp (config := {maxSteps := 2000000, implicitDefEqProofs := false}) only [go_sem, ↓reduceIte, Nat.reduceEqDiff, Nat.reduceAdd, Nat.reduceMul, Nat.reduceLeDiff, Nat.reduceLT, Nat.reduceSub, IntWalk.iteOmega, IntWalk.toNatUp, reduceCtorEq, false_and, and_false, false_or, or_false, true_or, or_true, not_true_eq_false, not_false_eq_true, Bool.not_true, Bool.not_false, Bool.and_true, Bool.true_and, Bool.and_false, Bool.false_and, Bool.not_eq_true, beq_self_eq_true, Nat.add_zero, Int.reduceLE, Int.reduceLT, Int.reduceToNat, Int.reduceNeg]
  refine (octets_ok T _ _ _ s hl).use ?_
  rintro v1 h1 ⟨o1, b1⟩
  simp (config := {maxSteps := 2000000, implicitDefEqProofs := false}) only [go_sem, ↓reduceIte, Nat.reduceEqDiff, Nat.reduceAdd, Nat.reduceMul, Nat.reduceLeDiff, Nat.reduceLT, Nat.reduceSub, IntWalk.iteOmega, IntWalk.toNatUp, reduceCtorEq, false_and, and_false, false_or, or_false, true_or, or_true, not_true_eq_false, not_false_eq_true, Bool.not_true, Bool.not_false, Bool.and_true, Bool.true_and, Bool.and_false, Bool.false_and, Bool.not_eq_true, beq_self_eq_true, Nat.add_zero, Int.reduceLE, Int.reduceLT, Int.reduceToNat, Int.reduceNeg]
  refine (octets_ok T _ _ _ (sn.bel b1) hn).use ?_
  rintro v2 h2 ⟨o2, b2⟩
  have B2 := b1.trans (b2.mono b1.size)
  simp (config := {maxSteps := 2000000, implicitDefEqProofs := false}) only [go_sem, ↓reduceIte, Nat.reduceEqDiff, Nat.reduceAdd, Nat.reduceMul, Nat.reduceLeDiff, Nat.reduceLT, Nat.reduceSub, IntWalk.iteOmega, IntWalk.toNatUp, reduceCtorEq, false_and, and_false, false_or, or_false, true_or, or_true, not_true_eq_false, not_false_eq_true, Bool.not_true, Bool.not_false, Bool.and_true, Bool.true_and, Bool.and_false, Bool.false_and, Bool.not_eq_true, beq_self_eq_true, Nat.add_zero, Int.reduceLE, Int.reduceLT, Int.reduceToNat, Int.reduceNeg]
  refine (polyTagE_ok T _ _ _ l n (o1.bs.bel b2) o2.bs o1.cap o2.cap).use ?_
  rintro _ h3 ⟨⟨w3, rfl, o3⟩, b3⟩
  have B3 := B2.trans (b3.mono B2.size)
  obtain ⟨E, hE⟩ : ∃ E, E = tagErr l n := ⟨_, rfl⟩
  rw [← hE] at o3 ⊢
  simp (config := {maxSteps := 2000000, implicitDefEqProofs := false}) only [go_sem, ↓reduceIte, Nat.reduceEqDiff, Nat.reduceAdd, Nat.reduceMul, Nat.reduceLeDiff, Nat.reduceLT, Nat.reduceSub, IntWalk.iteOmega, IntWalk.toNatUp, reduceCtorEq, false_and, and_false, false_or, or_false, true_or, or_true, not_true_eq_false, not_false_eq_true, Bool.not_true, Bool.not_false, Bool.and_true, Bool.true_and, Bool.and_false, Bool.false_and, Bool.not_eq_true, beq_self_eq_true, Nat.add_zero, Int.reduceLE, Int.reduceLT, Int.reduceToNat, Int.reduceNeg]
  refine (tagOf_ok T _ _ _ l n (s.bel B3) (sn.bel B3) c1 c2).use ?_
  rintro _ h4 ⟨⟨w4, rfl, o4⟩, b4⟩
  have B4 := B3.trans (b4.mono B3.size)
  rw [← hE] at o4 ⊢
  simp (config := {maxSteps := 2000000, implicitDefEqProofs := false}) only [go_sem, ↓reduceIte, Nat.reduceEqDiff, Nat.reduceAdd, Nat.reduceMul, Nat.reduceLeDiff, Nat.reduceLT, Nat.reduceSub, IntWalk.iteOmega, IntWalk.toNatUp, reduceCtorEq, false_and, and_false, false_or, or_false, true_or, or_true, not_true_eq_false, not_false_eq_true, Bool.not_true, Bool.not_false, Bool.and_true, Bool.true_and, Bool.and_false, Bool.false_and, Bool.not_eq_true, beq_self_eq_true, Nat.add_zero, Int.reduceLE, Int.reduceLT, Int.reduceToNat, Int.reduceNeg]
  refine (sameBytes_ok T _ _ _ _ _ (o3.bs.bel b4) o4.bs).pure ?_
  simp (config := {maxSteps := 2000000, implicitDefEqProofs := false}) only [go_sem, ↓reduceIte, Nat.reduceEqDiff, Nat.reduceAdd, Nat.reduceMul, Nat.reduceLeDiff, Nat.reduceLT, Nat.reduceSub, IntWalk.iteOmega, IntWalk.toNatUp, reduceCtorEq, false_and, and_false, false_or, or_false, true_or, or_true, not_true_eq_false, not_false_eq_true, Bool.not_true, Bool.not_false, Bool.and_true, Bool.true_and, Bool.and_false, Bool.false_and, Bool.not_eq_true, beq_self_eq_true, Nat.add_zero, Int.reduceLE, Int.reduceLT, Int.reduceToNat, Int.reduceNeg]
  exact B4
theorem polyTags_lifted (os : Os) (started : os.Started) (H : Type) (enc : TypeId × Value → H) :
    ReturnsInHanded {} Try.checked os 19 .any (Rows.polyTagsSpec.pre6 enc Try.prog Try.f19 Rows.polyTagsRow.domain false) (Rows.polyTagsSpec.post enc Try.prog Try.f19 false true false false) :=
  law_lifted (C := Try.checked) ownKnobT started (by kernel_rfl) Try.func19
    (ChangeSpec.witness6 (enc := enc) (C := Try.checked) false ⟨#[], #[.slice none 0 0, .slice none 0 0], []⟩ 12 (by kernel_rfl) (by kernel_rfl) (by kernel_rfl) (by kernel_rfl))
    laidOutT (by kernel_rfl) (by kernel_rfl) (tb := 4) rfl Try.underlying4 rfl (fun ds hd => by
      have hl : ds.length = 2 := hd
      match ds, hl with
      | [d0, d1], _ => rfl) polyTags_ok
theorem polyTags_holds : Rows.PolyTagsSaid :=
  OpenClaim.holds_of_wide 19 Try.f19 rfl rfl rfl rfl rfl rfl rfl ⟨rfl, rfl, rfl, rfl, rfl⟩ rfl rfl rfl rfl rfl (by kernel_rfl) Try.func19 (show joinedFacts Try.prog 19 Try.f19 Rows.polyTagsSpec Rows.polyTagsRow = true by unfold joinedFacts; rw [makeT, enterT, liftsT]; kernel_rfl)
    (of_decide_eq_true (by kernel_rfl)) (by unfold Func.isWrapper; rw [if_neg (of_decide_eq_false (by kernel_rfl))]; exact ⟨rfl, rfl⟩)
    (fun os started H enc _ => polyTags_lifted os started H enc)
end Go.Proofs.Ytjgbajgmndkfjaa
