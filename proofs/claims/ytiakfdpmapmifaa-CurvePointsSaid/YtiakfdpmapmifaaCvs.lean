/- What the reference's SharedOf and PointOf tell; no condition but those in the statements. -/
import Derived.Test.YtiakfdpmapmifaaFlsh
import Derived.Test.YtiakfdpmapmifaaCvl
namespace Go.Proofs.Ytiakfdpmapmifaa
open Go Go.V
set_option linter.unusedSimpArgs false
set_option linter.unusedVariables false
set_option maxRecDepth 100000
theorem curveF_length (k p : List Nat) : (curveF k p).length = 32 := by unfold curveF; rw [fby_length]
set_option maxHeartbeats 2000000 in
theorem sharedOf_ok (T : World) (h : Hp) (u v : Value) (kl pl : List Nat) (s : Bs h u kl) (sp : Bs h v pl) :
    CallsH Try.prog T 12 #[u, v] h fun v' h' => ShRes h.size h' v' kl pl (curveF kl pl) ∧ Bel h.size h h' := by
  obtain ⟨p, c, rfl, _⟩ := s.opend
  obtain ⟨q, d, rfl, _⟩ := sp.opend
  refine CallsH.of_code' (args := [_, _]) Try.func12 rfl rfl rfl rfl ?_
  by_cases e1 : kl.length = 32
  · by_cases e2 : pl.length = 32
    · have e1' : ((kl.length : Nat) : Int) = 32 := by omega
      have e2' : ((pl.length : Nat) : Int) = 32 := by omega
      have lo := curveF_length kl pl
      have run := laddered_ok T h _ _ kl pl s sp e1 e2
      have hall : shE kl pl (curveF kl pl) = if ∀ x ∈ curveF kl pl, x = 0 then 12 else 0 := by unfold shE; rw [if_pos ⟨e1, e2⟩]
      obtain ⟨out, hout⟩ : ∃ out, out = curveF kl pl := ⟨_, rfl⟩
      rw [← hout] at lo run hall ⊢
      simp (config := {maxSteps := 2000000, implicitDefEqProofs := false}) only [go_sem, ↓reduceIte, Nat.reduceEqDiff, Nat.reduceAdd, Nat.reduceMul, Nat.reduceLeDiff, Nat.reduceLT, Nat.reduceSub, IntWalk.iteOmega, IntWalk.toNatUp, reduceCtorEq, false_and, and_false, false_or, or_false, true_or, or_true, not_true_eq_false, not_false_eq_true, Bool.not_true, Bool.not_false, Bool.and_true, Bool.true_and, Bool.and_false, Bool.false_and, Bool.not_eq_true, beq_self_eq_true, Nat.add_zero, Int.reduceLE, Int.reduceLT, Int.reduceToNat, Int.reduceNeg, e1', e2']
      refine run.use ?_
      rintro w g ⟨ow, bw⟩
      obtain ⟨b, cc, rfl, ho⟩ := ow.bs.open
      have hby := ow.byte
      obtain ⟨b1, o1, rfl, hb1, g1⟩ := ho (by intro e; rw [e] at lo; cases lo)
      simp (config := {maxSteps := 2000000, implicitDefEqProofs := false}) only [go_sem, ↓reduceIte, Nat.reduceEqDiff, Nat.reduceAdd, Nat.reduceMul, Nat.reduceLeDiff, Nat.reduceLT, Nat.reduceSub, IntWalk.iteOmega, IntWalk.toNatUp, reduceCtorEq, false_and, and_false, false_or, or_false, true_or, or_true, not_true_eq_false, not_false_eq_true, Bool.not_true, Bool.not_false, Bool.and_true, Bool.true_and, Bool.and_false, Bool.false_and, Bool.not_eq_true, beq_self_eq_true, Nat.add_zero, Int.reduceLE, Int.reduceLT, Int.reduceToNat, Int.reduceNeg, lo]
      refine VS.loop' (fun F g' => g' = g ∧ F 6 = .slice (some ⟨b1, o1, none⟩) 32 cc ∧ ∃ i : Nat, i ≤ 32 ∧ F 7 = .int .i64 i ∧ ∀ y ∈ out.take i, y = 0)
        (fun F _ => 32 - (vi (F 7)).toNat) rfl ⟨rfl, rfl, 0, by omega, rfl, by simp⟩ ?_
      rintro F g' ⟨rfl, f6, i, hi, f7, hxi⟩
      by_cases hlt : i < 32
      · have hlt' : (i : Int) < 32 := by omega
        have g1i := g1 i (by omega)
        have y1 := hby _ (List.getElem_mem (show i < out.length by omega))
        obtain ⟨x, hx⟩ : ∃ x, x = out[i]'(by omega) := ⟨_, rfl⟩
        rw [← hx] at g1i y1
        by_cases hx0 : x = 0
        · subst hx0
          simp (config := {maxSteps := 2000000, implicitDefEqProofs := false}) only [go_sem, ↓reduceIte, Nat.reduceEqDiff, Nat.reduceAdd, Nat.reduceMul, Nat.reduceLeDiff, Nat.reduceLT, Nat.reduceSub, IntWalk.iteOmega, IntWalk.toNatUp, reduceCtorEq, false_and, and_false, false_or, or_false, true_or, or_true, not_true_eq_false, not_false_eq_true, Bool.not_true, Bool.not_false, Bool.and_true, Bool.true_and, Bool.and_false, Bool.false_and, Bool.not_eq_true, beq_self_eq_true, Nat.add_zero, Int.reduceLE, Int.reduceLT, Int.reduceToNat, Int.reduceNeg, f6, f7, hlt', g1i]
          refine ⟨⟨rfl, f6, i + 1, hlt, rfl, ?_⟩, ?_⟩
          · rw [take_snoc out i (by omega), List.forall_mem_append, List.forall_mem_singleton]
            exact ⟨hxi, hx.symm⟩
          · simp only [vi, updo_some, ↓reduceIte, f7]; omega
        · have hx0' : ¬ (x : Int) = 0 := by omega
          have ha : shE kl pl out = 0 := by
            rw [hall, if_neg]
            intro e
            exact hx0 (e x (by rw [hx]; exact List.getElem_mem _))
          simp (config := {maxSteps := 2000000, implicitDefEqProofs := false}) only [go_sem, ↓reduceIte, Nat.reduceEqDiff, Nat.reduceAdd, Nat.reduceMul, Nat.reduceLeDiff, Nat.reduceLT, Nat.reduceSub, IntWalk.iteOmega, IntWalk.toNatUp, reduceCtorEq, false_and, and_false, false_or, or_false, true_or, or_true, not_true_eq_false, not_false_eq_true, Bool.not_true, Bool.not_false, Bool.and_true, Bool.true_and, Bool.and_false, Bool.false_and, Bool.not_eq_true, beq_self_eq_true, Nat.add_zero, Int.reduceLE, Int.reduceLT, Int.reduceToNat, Int.reduceNeg, f6, f7, hlt', g1i, hx0']
          rw [lo] at ow
          exact ⟨⟨_, by rw [ha], by rw [ha]; exact ow⟩, bw⟩
      · obtain rfl : i = 32 := by omega
        rw [List.take_of_length_le (by omega)] at hxi
        have ha : shE kl pl out = 12 := by rw [hall, if_pos hxi]
        have c32 : ((32 : Nat) : Int) = 32 := rfl
        rw [c32] at f7
        simp (config := {maxSteps := 2000000, implicitDefEqProofs := false}) only [go_sem, ↓reduceIte, Nat.reduceEqDiff, Nat.reduceAdd, Nat.reduceMul, Nat.reduceLeDiff, Nat.reduceLT, Nat.reduceSub, IntWalk.iteOmega, IntWalk.toNatUp, reduceCtorEq, false_and, and_false, false_or, or_false, true_or, or_true, not_true_eq_false, not_false_eq_true, Bool.not_true, Bool.not_false, Bool.and_true, Bool.true_and, Bool.and_false, Bool.false_and, Bool.not_eq_true, beq_self_eq_true, Nat.add_zero, Int.reduceLE, Int.reduceLT, Int.reduceToNat, Int.reduceNeg, f6, f7]
        exact ⟨⟨_, by rw [ha], by rw [ha]; exact OBs.nil _ _ _⟩, bw⟩
    · have e1' : ((kl.length : Nat) : Int) = 32 := by omega
      have e2' : ¬ ((pl.length : Nat) : Int) = 32 := by omega
      have ha : ∀ out, shE kl pl out = 1 := fun out => by unfold shE; rw [if_neg (fun e => e2 e.2)]
      simp (config := {maxSteps := 2000000, implicitDefEqProofs := false}) only [go_sem, ↓reduceIte, Nat.reduceEqDiff, Nat.reduceAdd, Nat.reduceMul, Nat.reduceLeDiff, Nat.reduceLT, Nat.reduceSub, IntWalk.iteOmega, IntWalk.toNatUp, reduceCtorEq, false_and, and_false, false_or, or_false, true_or, or_true, not_true_eq_false, not_false_eq_true, Bool.not_true, Bool.not_false, Bool.and_true, Bool.true_and, Bool.and_false, Bool.false_and, Bool.not_eq_true, beq_self_eq_true, Nat.add_zero, Int.reduceLE, Int.reduceLT, Int.reduceToNat, Int.reduceNeg, e1', e2']
      exact ⟨_, by rw [ha], by rw [ha]; exact OBs.nil _ _ _⟩
  · have e1' : ¬ ((kl.length : Nat) : Int) = 32 := by omega
    have ha : ∀ out, shE kl pl out = 1 := fun out => by unfold shE; rw [if_neg (fun e => e1 e.1)]
    simp (config := {maxSteps := 2000000, implicitDefEqProofs := false}) only [go_sem, ↓reduceIte, Nat.reduceEqDiff, Nat.reduceAdd, Nat.reduceMul, Nat.reduceLeDiff, Nat.reduceLT, Nat.reduceSub, IntWalk.iteOmega, IntWalk.toNatUp, reduceCtorEq, false_and, and_false, false_or, or_false, true_or, or_true, not_true_eq_false, not_false_eq_true, Bool.not_true, Bool.not_false, Bool.and_true, Bool.true_and, Bool.and_false, Bool.false_and, Bool.not_eq_true, beq_self_eq_true, Nat.add_zero, Int.reduceLE, Int.reduceLT, Int.reduceToNat, Int.reduceNeg, e1']
    exact ⟨_, by rw [ha], by rw [ha]; exact OBs.nil _ _ _⟩
theorem pointOf_ok (T : World) (h : Hp) (u : Value) (kl : List Nat) (s : Bs h u kl) :
    CallsH Try.prog T 15 #[u] h fun v' h' => ShRes h.size h' v' kl base9 (curveF kl base9) ∧ Bel h.size h h' := by
  obtain ⟨p, c, rfl, _⟩ := s.opend
  refine CallsH.of_code2 (args := [_]) Try.func15 rfl rfl rfl rfl ?_
  obtain ⟨g, hg⟩ : ∃ g : Hp, g = h.push (.cells (([9] : List Nat).map bv).toArray 5) := ⟨_, rfl⟩
  have bg : Bel h.size h g := by rw [hg]; exact Bel.push (Nat.le_refl _) _
  have og : OBs h.size 5 g (.slice (some ⟨h.size, 0, none⟩) 1 1) [9] := by rw [hg]; exact OBs.made (by decide) (Nat.le_refl _)
  have eg : h.push (.cells #[.int .u8 9] 5) = g := hg.symm
  clear hg
  simp (config := {maxSteps := 2000000, implicitDefEqProofs := false}) only [go_sem, ↓reduceIte, Nat.reduceEqDiff, Nat.reduceAdd, Nat.reduceMul, Nat.reduceLeDiff, Nat.reduceLT, Nat.reduceSub, IntWalk.iteOmega, IntWalk.toNatUp, reduceCtorEq, false_and, and_false, false_or, or_false, true_or, or_true, not_true_eq_false, not_false_eq_true, Bool.not_true, Bool.not_false, Bool.and_true, Bool.true_and, Bool.and_false, Bool.false_and, Bool.not_eq_true, beq_self_eq_true, Nat.add_zero, Int.reduceLE, Int.reduceLT, Int.reduceToNat, Int.reduceNeg, eg]
  refine VS.loop' (fun F g => Bel h.size h g ∧ F 0 = .slice p kl.length c ∧ ∃ i : Nat, i ≤ 31 ∧ F 5 = .int .i64 ((i + 1 : Nat) : Int) ∧ OBs h.size 5 g (F 4) (9 :: List.replicate i 0))
    (fun F _ => 32 - (vi (F 5)).toNat) rfl ⟨bg, rfl, 0, by omega, rfl, og⟩ ?_
  clear bg og eg
  rintro F g ⟨hg, f0, i, hi, f5, ho⟩
  by_cases hlt : i < 31
  · have hlt' : ((i + 1 : Nat) : Int) < 32 := by omega
    have hsz := hg.size
    simp (config := {maxSteps := 2000000, implicitDefEqProofs := false}) only [go_sem, ↓reduceIte, Nat.reduceEqDiff, Nat.reduceAdd, Nat.reduceMul, Nat.reduceLeDiff, Nat.reduceLT, Nat.reduceSub, IntWalk.iteOmega, IntWalk.toNatUp, reduceCtorEq, false_and, and_false, false_or, or_false, true_or, or_true, not_true_eq_false, not_false_eq_true, Bool.not_true, Bool.not_false, Bool.and_true, Bool.true_and, Bool.and_false, Bool.false_and, Bool.not_eq_true, beq_self_eq_true, Nat.add_zero, Int.reduceLE, Int.reduceLT, Int.reduceToNat, Int.reduceNeg, f0, f5, hlt']
    refine append_bytes (E := 5) (B := h.size) tsl30 Try.underlying30 tn5 tz5 tb5 (ho.push _) (by simp; omega) (Bs.made (l := [0]) (by decide) 1) (by simp; omega) ?_
    intro v' h2 ho' hb2 _
    simp (config := {maxSteps := 2000000, implicitDefEqProofs := false}) only [go_sem, ↓reduceIte, Nat.reduceEqDiff, Nat.reduceAdd, Nat.reduceMul, Nat.reduceLeDiff, Nat.reduceLT, Nat.reduceSub, IntWalk.iteOmega, IntWalk.toNatUp, reduceCtorEq, false_and, and_false, false_or, or_false, true_or, or_true, not_true_eq_false, not_false_eq_true, Bool.not_true, Bool.not_false, Bool.and_true, Bool.true_and, Bool.and_false, Bool.false_and, Bool.not_eq_true, beq_self_eq_true, Nat.add_zero, Int.reduceLE, Int.reduceLT, Int.reduceToNat, Int.reduceNeg, f0, f5]
    refine ⟨⟨(hg.addP hsz _).trans hb2, f0, i + 1, hlt, rfl, ?_⟩, ?_⟩
    · rw [List.cons_append, ← List.replicate_succ'] at ho'; exact ho'
    · simp only [vi, updo_some, ↓reduceIte, f5]; omega
  · obtain rfl : i = 31 := by omega
    have c32 : ((31 + 1 : Nat) : Int) = 32 := rfl
    rw [c32] at f5
    simp (config := {maxSteps := 2000000, implicitDefEqProofs := false}) only [go_sem, ↓reduceIte, Nat.reduceEqDiff, Nat.reduceAdd, Nat.reduceMul, Nat.reduceLeDiff, Nat.reduceLT, Nat.reduceSub, IntWalk.iteOmega, IntWalk.toNatUp, reduceCtorEq, false_and, and_false, false_or, or_false, true_or, or_true, not_true_eq_false, not_false_eq_true, Bool.not_true, Bool.not_false, Bool.and_true, Bool.true_and, Bool.and_false, Bool.false_and, Bool.not_eq_true, beq_self_eq_true, Nat.add_zero, Int.reduceLE, Int.reduceLT, Int.reduceToNat, Int.reduceNeg, f0, f5]
    refine (sharedOf_ok T g _ _ kl base9 (s.bel hg) ho.bs).use ?_
    rintro _ g2 ⟨⟨w, rfl, ow⟩, b2⟩
    have B2 := hg.trans (b2.mono hg.size)
    obtain ⟨e, he⟩ : ∃ e, e = shE kl base9 (curveF kl base9) := ⟨_, rfl⟩
    rw [← he] at ow
    have hfin : ShRes h.size g2 (.tuple [w, .int .i64 e].toArray) kl base9 (curveF kl base9) := ⟨w, by rw [← he], by rw [← he]; exact ow.mono hg.size⟩
    rw [← he]
    simp (config := {maxSteps := 2000000, implicitDefEqProofs := false}) only [go_sem, ↓reduceIte, Nat.reduceEqDiff, Nat.reduceAdd, Nat.reduceMul, Nat.reduceLeDiff, Nat.reduceLT, Nat.reduceSub, IntWalk.iteOmega, IntWalk.toNatUp, reduceCtorEq, false_and, and_false, false_or, or_false, true_or, or_true, not_true_eq_false, not_false_eq_true, Bool.not_true, Bool.not_false, Bool.and_true, Bool.true_and, Bool.and_false, Bool.false_and, Bool.not_eq_true, beq_self_eq_true, Nat.add_zero, Int.reduceLE, Int.reduceLT, Int.reduceToNat, Int.reduceNeg]
    exact ⟨hfin, B2⟩
end Go.Proofs.Ytiakfdpmapmifaa
