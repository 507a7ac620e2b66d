/- What the document says is sent on a line; no condition but those in the statements. -/
import Derived.Test.YtjgbajgmndkfjaaSnd
namespace Go.Proofs.Ytjgbajgmndkfjaa
open Go Go.V
set_option linter.unusedSimpArgs false
set_option linter.unusedVariables false
set_option maxRecDepth 100000
theorem chan_again {sent top : Int} {s : List Bool} (hs : s.length = 8) (e : chanErr 32 sent top s = 0) : topOf (metN top s 8) = top ∧ seenOf (metN top s 8) top = s := by
  obtain ⟨_, h1, h2, h3, h4⟩ := chanErr_zero e
  rw [chan_law hs h1 h2 h3 h4] at e
  split at e
  · cases e
  · rename_i hn
    have t : topOf (metN top s 8) = top := Classical.byContradiction fun hne => hn (.inr (.inl hne))
    exact ⟨t, Classical.byContradiction fun hne => hn (.inr (.inr (by rw [t]; exact hne)))⟩
theorem met_range {top : Int} {s : List Bool} (h3 : 0 ≤ top) (h4 : top ≤ 1073741824) : ∀ x ∈ metN top s 8, -1099511627776 ≤ x ∧ x ≤ 1099511627776 ∧ x < topOf (metN top s 8) := by
  intro x hx
  have hb := metN_below top s x hx
  obtain ⟨i, hi, _, rfl⟩ := metN_mem.1 hx
  exact ⟨by omega, by omega, hb⟩
theorem zero8 : (#[Value.int .u8 0, .int .u8 0, .int .u8 0, .int .u8 0, .int .u8 0, .int .u8 0, .int .u8 0, .int .u8 0] : Array Value) = ((List.replicate 8 0).map bv).toArray := rfl
set_option maxHeartbeats 1000000 in
theorem sentOn_ok (T : World) (h : Hp) (k u : Value) (kl plain : List Nat) (sent top : Int) (s : List Bool) (hs : s.length = 8) (sk : Bs h k kl) (sp : Bs h u plain) (hk0 : kl.length ≤ 140737488355328) (hsent : -9223372036854775808 ≤ sent ∧ sent ≤ 9223372036854775807) :
    CallsH Try.prog T 87 #[.agg (chanC k sent top s).toArray, u] h fun v' h' => SendRes h.size h' v' kl sent top s plain ∧ Bel h.size h h' := by
  obtain ⟨p, c, rfl, _⟩ := sk.open
  obtain ⟨q, d, rfl, _⟩ := sp.open
  have hC11 := chanC_length (.slice p kl.length c) sent top s hs
  have tk := take_len hC11
  refine CallsH.of_code2 (args := [_, _]) Try.func87 rfl rfl rfl rfl ?_
  simp (config := {maxSteps := 2000000, implicitDefEqProofs := false}) only [go_sem, ↓reduceIte, Nat.reduceEqDiff, Nat.reduceAdd, Nat.reduceMul, Nat.reduceLeDiff, Nat.reduceLT, Nat.reduceSub, IntWalk.iteOmega, IntWalk.toNatUp, reduceCtorEq, false_and, and_false, false_or, or_false, true_or, or_true, not_true_eq_false, not_false_eq_true, Bool.not_true, Bool.not_false, Bool.and_true, Bool.true_and, Bool.and_false, Bool.false_and, Bool.not_eq_true, beq_self_eq_true, Nat.add_zero, Int.reduceLE, Int.reduceLT, Int.reduceToNat, Int.reduceNeg, hC11, tk]
  have hpush : Bel h.size h ((h.push (.cells (chanC (.slice p kl.length c) sent top s).toArray 39)).push (.cells chanZ.toArray 39)) := by (repeat' (first | exact Bel.refl _ _ | assumption | refine Bel.add ?_ _ | refine Bel.addSet ?_ (by first | omega | (simp; omega)) _ | refine Bel.trans (by assumption) ?_))
  refine (channelFault_ok T _ _ kl sent top s hs (sk.bel hpush) hk0 hsent).use ?_
  rintro _ g1 ⟨rfl, b1⟩
  have x0 : g1[h.size]? = some (.cells (chanC (.slice p kl.length c) sent top s).toArray 39) := b1.get (by simp only [Array.size_push]; omega) (by simp only [Array.getElem?_push, Array.size_push, IntWalk.iteOmega, ↓reduceIte])
  have x1 : g1[h.size + 1]? = some (.cells chanZ.toArray 39) := b1.get (by simp only [Array.size_push]; omega) (by simp only [Array.getElem?_push, Array.size_push, IntWalk.iteOmega, ↓reduceIte] <;> rfl)
  have hB1 : Bel h.size h g1 := hpush.trans (b1.mono (by simp; omega))
  have z1 := lt_of_get x1
  clear b1 hpush
  have hse : sendErr kl.length sent top s plain.length = if chanErr kl.length sent top s ≠ 0 then 5 else if 2000 < plain.length then 1 else if sent = 1073741824 then 8 else 0 := rfl
  unfold SendRes ChanW
  obtain ⟨E, hE⟩ : ∃ E, E = sendErr kl.length sent top s plain.length := ⟨_, rfl⟩
  rw [← hE] at hse ⊢
  have wz := wrZ x1 (w := [.slice none 0 0, .int .i64 0, .int .i64 0, .bool false, .bool false, .bool false, .bool false, .bool false, .bool false, .bool false, .bool false]) rfl rfl
  have hBz : Bel h.size h (g1.setIfInBounds (h.size + 1) (.cells #[.slice none 0 0, .int .i64 0, .int .i64 0, .bool false, .bool false, .bool false, .bool false, .bool false, .bool false, .bool false, .bool false] 39)) := hB1.addSet (by omega) _
  by_cases e0 : chanErr kl.length sent top s = 0
  · obtain ⟨hk, s0, s1, t0, t1⟩ := chanErr_zero e0
    rw [if_neg (by simp [e0])] at hse
    by_cases hm : 2000 < plain.length
    · rw [if_pos hm] at hse
      have hm' : 2000 < (plain.length : Int) := by omega
      simp (config := {maxSteps := 2000000, implicitDefEqProofs := false}) only [go_sem, ↓reduceIte, Nat.reduceEqDiff, Nat.reduceAdd, Nat.reduceMul, Nat.reduceLeDiff, Nat.reduceLT, Nat.reduceSub, IntWalk.iteOmega, IntWalk.toNatUp, reduceCtorEq, false_and, and_false, false_or, or_false, true_or, or_true, not_true_eq_false, not_false_eq_true, Bool.not_true, Bool.not_false, Bool.and_true, Bool.true_and, Bool.and_false, Bool.false_and, Bool.not_eq_true, beq_self_eq_true, Nat.add_zero, Int.reduceLE, Int.reduceLT, Int.reduceToNat, Int.reduceNeg, e0, hm', wz, z1]
      exact ⟨⟨_, _, by rw [hse]; rfl, ⟨_, rfl, OBs.nil _ _ _⟩, OBs.nil _ _ _⟩, hBz⟩
    · rw [if_neg hm] at hse
      have hm' : ¬ 2000 < (plain.length : Int) := by omega
      have y1 : V.hc g1 ⟨h.size, 1, none⟩ = some (.int .i64 sent) := by rw [hc_last x0]; rfl
      have y0 : V.hc g1 ⟨h.size, 0, none⟩ = some (.slice p kl.length c) := by rw [hc_last x0]; rfl
      by_cases hf : sent = 1073741824
      · rw [if_pos hf] at hse
        have hf' : (sent = 1073741824) = True := eq_true hf
        simp (config := {maxSteps := 2000000, implicitDefEqProofs := false}) only [go_sem, ↓reduceIte, Nat.reduceEqDiff, Nat.reduceAdd, Nat.reduceMul, Nat.reduceLeDiff, Nat.reduceLT, Nat.reduceSub, IntWalk.iteOmega, IntWalk.toNatUp, reduceCtorEq, false_and, and_false, false_or, or_false, true_or, or_true, not_true_eq_false, not_false_eq_true, Bool.not_true, Bool.not_false, Bool.and_true, Bool.true_and, Bool.and_false, Bool.false_and, Bool.not_eq_true, beq_self_eq_true, Nat.add_zero, Int.reduceLE, Int.reduceLT, Int.reduceToNat, Int.reduceNeg, e0, hm', y1, hf', wz, z1]
        exact ⟨⟨_, _, by rw [hse]; rfl, ⟨_, rfl, OBs.nil _ _ _⟩, OBs.nil _ _ _⟩, hBz⟩
      · rw [if_neg hf] at hse
        rw [hse]
        obtain ⟨n, rfl⟩ : ∃ n : Nat, sent = n := ⟨sent.toNat, by omega⟩
        rw [Int.toNat_natCast]
        simp (config := {maxSteps := 2000000, implicitDefEqProofs := false}) only [go_sem, ↓reduceIte, Nat.reduceEqDiff, Nat.reduceAdd, Nat.reduceMul, Nat.reduceLeDiff, Nat.reduceLT, Nat.reduceSub, IntWalk.iteOmega, IntWalk.toNatUp, reduceCtorEq, false_and, and_false, false_or, or_false, true_or, or_true, not_true_eq_false, not_false_eq_true, Bool.not_true, Bool.not_false, Bool.and_true, Bool.true_and, Bool.and_false, Bool.false_and, Bool.not_eq_true, beq_self_eq_true, Nat.add_zero, Int.reduceLE, Int.reduceLT, Int.reduceToNat, Int.reduceNeg, e0, hm', y1, hf]
        refine (lineHead_ok T _ n (by omega)).use ?_
        rintro vh g2 ⟨oh, b2⟩
        have z2 := b2.size
        have x0' := b2.get (by omega) x0
        have x1' := b2.get (by omega) x1
        have hB2 := hB1.trans (b2.mono hB1.size)
        have o8 : OBs g2.size 5 (g2.push (.cells ((List.replicate 8 0).map bv).toArray 5)) (.slice (some ⟨g2.size, 0, none⟩) 8 8) (List.replicate 8 0) := OBs.made (l := List.replicate 8 0) (fun x hx => by rw [List.eq_of_mem_replicate hx]; decide) (Nat.le_refl _)
        have zp : (g2.push (.cells ((List.replicate 8 0).map bv).toArray 5)).size = g2.size + 1 := by simp
        have bp : Bel g2.size g2 (g2.push (.cells ((List.replicate 8 0).map bv).toArray 5)) := Bel.push (Nat.le_refl _) _
        simp (config := {maxSteps := 2000000, implicitDefEqProofs := false}) only [go_sem, ↓reduceIte, Nat.reduceEqDiff, Nat.reduceAdd, Nat.reduceMul, Nat.reduceLeDiff, Nat.reduceLT, Nat.reduceSub, IntWalk.iteOmega, IntWalk.toNatUp, reduceCtorEq, false_and, and_false, false_or, or_false, true_or, or_true, not_true_eq_false, not_false_eq_true, Bool.not_true, Bool.not_false, Bool.and_true, Bool.true_and, Bool.and_false, Bool.false_and, Bool.not_eq_true, beq_self_eq_true, Nat.add_zero, Int.reduceLE, Int.reduceLT, Int.reduceToNat, Int.reduceNeg, zero8]
        refine (joined_ok T _ _ _ (List.replicate 8 0) (head4 n) o8.bs (oh.bs.bel bp) (by simp [head4])).use ?_
        rintro vn g3 ⟨on, b3⟩
        have on : OBs (g2.size + 1) 5 g3 vn (nonceS (head4 n)) := by rw [← zp]; exact on
        have b23 : Bel g2.size g2 g3 := bp.trans (b3.mono (by omega))
        have z3 := b23.size
        have y0'' : V.hc g3 ⟨h.size, 0, none⟩ = some (.slice p kl.length c) := by rw [hc_last (b23.get (by omega) x0')]; rfl
        simp (config := {maxSteps := 2000000, implicitDefEqProofs := false}) only [go_sem, ↓reduceIte, Nat.reduceEqDiff, Nat.reduceAdd, Nat.reduceMul, Nat.reduceLeDiff, Nat.reduceLT, Nat.reduceSub, IntWalk.iteOmega, IntWalk.toNatUp, reduceCtorEq, false_and, and_false, false_or, or_false, true_or, or_true, not_true_eq_false, not_false_eq_true, Bool.not_true, Bool.not_false, Bool.and_true, Bool.true_and, Bool.and_false, Bool.false_and, Bool.not_eq_true, beq_self_eq_true, Nat.add_zero, Int.reduceLE, Int.reduceLT, Int.reduceToNat, Int.reduceNeg, y0'']
        refine (sealed_ok T _ _ _ _ _ kl (nonceS (head4 n)) (head4 n) plain ((sk.bel hB2).bel b23) on.bs (oh.bs.bel b23) ((sp.bel hB2).bel b23)).use ?_
        rintro _ g4 ⟨⟨w4, rfl, o4⟩, b4⟩
        have z4 := b4.size
        have eS : sealErr kl.length (nonceS (head4 n)).length (head4 n).length plain.length 2000 = 0 := by
          unfold sealErr nonceS head4; rw [if_neg]; simp; omega
        rw [eS, if_pos rfl] at o4
        rw [eS]
        have b34 : Bel g2.size g2 g4 := b23.trans (b4.mono z3)
        have x0'' := b34.get (by omega) x0'
        have x1'' := b34.get (by omega) x1'
        have hB4 := hB2.trans (b34.mono hB2.size)
        have rC : rd g4 ⟨h.size, 0, none⟩ 11 = some (chanC (.slice p kl.length c) n top s) := rd_last x0'' hC11
        simp (config := {maxSteps := 2000000, implicitDefEqProofs := false}) only [go_sem, ↓reduceIte, Nat.reduceEqDiff, Nat.reduceAdd, Nat.reduceMul, Nat.reduceLeDiff, Nat.reduceLT, Nat.reduceSub, IntWalk.iteOmega, IntWalk.toNatUp, reduceCtorEq, false_and, and_false, false_or, or_false, true_or, or_true, not_true_eq_false, not_false_eq_true, Bool.not_true, Bool.not_false, Bool.and_true, Bool.true_and, Bool.and_false, Bool.false_and, Bool.not_eq_true, beq_self_eq_true, Nat.add_zero, Int.reduceLE, Int.reduceLT, Int.reduceToNat, Int.reduceNeg, rC]
        refine (metNumbers_ok T _ _ n top s hs (by omega) (by omega)).use ?_
        rintro vm g5 ⟨om, b5⟩
        have z5 := b5.size
        have x0c := b5.get (by omega) x0''
        have x1c := b5.get (by omega) x1''
        have hB5 := hB4.trans (b5.mono hB4.size)
        have e1 : (n : Int) + 1 = ((n + 1 : Nat) : Int) := rfl
        have yk : V.hc g5 ⟨h.size, 0, none⟩ = some (.slice p kl.length c) := by rw [hc_last x0c]; rfl
        have yn : V.hc g5 ⟨h.size, 1, none⟩ = some (.int .i64 n) := by rw [hc_last x0c]; rfl
        rw [hk] at e0
        obtain ⟨ta, sa⟩ := chan_again hs e0
        have lmet := metN_length top s 8
        simp (config := {maxSteps := 2000000, implicitDefEqProofs := false}) only [go_sem, ↓reduceIte, Nat.reduceEqDiff, Nat.reduceAdd, Nat.reduceMul, Nat.reduceLeDiff, Nat.reduceLT, Nat.reduceSub, IntWalk.iteOmega, IntWalk.toNatUp, reduceCtorEq, false_and, and_false, false_or, or_false, true_or, or_true, not_true_eq_false, not_false_eq_true, Bool.not_true, Bool.not_false, Bool.and_true, Bool.true_and, Bool.and_false, Bool.false_and, Bool.not_eq_true, beq_self_eq_true, Nat.add_zero, Int.reduceLE, Int.reduceLT, Int.reduceToNat, Int.reduceNeg, yk, yn, e1]
        refine (channelOf_ok T _ _ _ kl ((n + 1 : Nat) : Int) (metN top s 8) (sk.bel hB5) (by omega) om.ts (by omega) (met_range t0 t1)).use ?_
        rintro _ g6 ⟨⟨w6, rfl, o6⟩, b6⟩
        rw [ta, sa]
        have z6 := b6.size
        have x1d := b6.get (by omega) x1c
        have hB6 := hB5.trans (b6.mono hB5.size)
        have lS : (sealS kl (nonceS (head4 n)) (head4 n) plain).length ≤ 2016 := by
          have l1 := mixB_length kl 1 (nonceS (head4 n)) plain
          have l2 : (sealTagS kl (nonceS (head4 n)) (head4 n) (mixB kl 1 (nonceS (head4 n)) plain)).length ≤ 16 := tagL_le _ _
          unfold sealS; rw [List.length_append]; omega
        have lh : (head4 n).length = 4 := rfl
        simp (config := {maxSteps := 2000000, implicitDefEqProofs := false}) only [go_sem, ↓reduceIte, Nat.reduceEqDiff, Nat.reduceAdd, Nat.reduceMul, Nat.reduceLeDiff, Nat.reduceLT, Nat.reduceSub, IntWalk.iteOmega, IntWalk.toNatUp, reduceCtorEq, false_and, and_false, false_or, or_false, true_or, or_true, not_true_eq_false, not_false_eq_true, Bool.not_true, Bool.not_false, Bool.and_true, Bool.true_and, Bool.and_false, Bool.false_and, Bool.not_eq_true, beq_self_eq_true, Nat.add_zero, Int.reduceLE, Int.reduceLT, Int.reduceToNat, Int.reduceNeg]
        refine (joined_ok T _ _ _ (head4 n) (sealS kl (nonceS (head4 n)) (head4 n) plain) (((oh.bs.bel b34).bel b5).bel b6) ((o4.bs.bel b5).bel b6) (by omega)).use ?_
        rintro v7 g7 ⟨o7, b7⟩
        have z7 := b7.size
        obtain ⟨pw, cw, rfl, _⟩ := o6.open
        have hD11' := chanC_length (.slice pw kl.length cw) ((n + 1 : Nat) : Int) top s hs
        have tkD' := take_len hD11'
        have oD' := chanC_one (p := pw) (n := kl.length) (c := cw) ((n + 1 : Nat) : Int) top s
        have x1e := b7.get (by omega) x1d
        have k2 := wrZ x1e hD11' oD'
        have k5 := lt_of_get x1e
        have o6' := o6.bel b7 (Nat.le_refl _)
        simp (config := {maxSteps := 2000000, implicitDefEqProofs := false}) only [go_sem, ↓reduceIte, Nat.reduceEqDiff, Nat.reduceAdd, Nat.reduceMul, Nat.reduceLeDiff, Nat.reduceLT, Nat.reduceSub, IntWalk.iteOmega, IntWalk.toNatUp, reduceCtorEq, false_and, and_false, false_or, or_false, true_or, or_true, not_true_eq_false, not_false_eq_true, Bool.not_true, Bool.not_false, Bool.and_true, Bool.true_and, Bool.and_false, Bool.false_and, Bool.not_eq_true, beq_self_eq_true, Nat.add_zero, Int.reduceLE, Int.reduceLT, Int.reduceToNat, Int.reduceNeg, k2, k5, hD11', tkD']
        exact ⟨⟨_, _, rfl, ⟨_, rfl, (o6'.setLow (by omega) _).mono (by omega)⟩, (o7.setLow (by omega) _).mono (by omega)⟩, (hB6.trans (b7.mono hB6.size)).addSet (by omega) _⟩
  · rw [if_pos e0] at hse
    have e5 := (chanErr_five kl.length sent top s).resolve_left e0
    simp (config := {maxSteps := 2000000, implicitDefEqProofs := false}) only [go_sem, ↓reduceIte, Nat.reduceEqDiff, Nat.reduceAdd, Nat.reduceMul, Nat.reduceLeDiff, Nat.reduceLT, Nat.reduceSub, IntWalk.iteOmega, IntWalk.toNatUp, reduceCtorEq, false_and, and_false, false_or, or_false, true_or, or_true, not_true_eq_false, not_false_eq_true, Bool.not_true, Bool.not_false, Bool.and_true, Bool.true_and, Bool.and_false, Bool.false_and, Bool.not_eq_true, beq_self_eq_true, Nat.add_zero, Int.reduceLE, Int.reduceLT, Int.reduceToNat, Int.reduceNeg, e5, wz, z1]
    exact ⟨⟨_, _, by rw [hse]; rfl, ⟨_, rfl, OBs.nil _ _ _⟩, OBs.nil _ _ _⟩, hBz⟩
end Go.Proofs.Ytjgbajgmndkfjaa
