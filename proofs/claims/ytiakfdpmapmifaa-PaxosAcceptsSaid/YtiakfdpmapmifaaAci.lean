/- A vote, put in among votes: what slices.Insert does; no condition but those in the statements. -/
import Derived.Test.YtiakfdpmapmifaaAcp
namespace Go.Proofs.Ytiakfdpmapmifaa
open Go Go.V
set_option linter.unusedSimpArgs false
set_option linter.unusedVariables false
set_option maxRecDepth 100000
theorem encV_length (l : List Vt) : (encs voteC l).length = l.length * 8 := encs_length (n := 8) (fun _ => rfl) l
theorem encV_one (l : List Vt) : (encs voteC l).all oneC = true := by
  induction l with
  | nil => rfl
  | cons x l ih => rw [encs, List.all_append, ih]; rfl
theorem zeroV (k : Nat) : (Builtin.zeroCells (rep 8 [Value.int .i64 0]).toArray k).toList.length = k * 8 := by rw [Array.length_toList, zeroCells_size]; rfl
theorem zeroV_one (k : Nat) : (Builtin.zeroCells (rep 8 [Value.int .i64 0]).toArray k).toList.all oneC = true := by
  unfold Builtin.zeroCells
  rw [List.all_eq_true]
  intro x hx
  simp only [Array.toList_map, Array.toList_range, List.mem_map] at hx
  obtain ⟨j, _, rfl⟩ := hx
  have : j % 8 < 8 := Nat.mod_lt _ (by decide)
  show oneC ((rep 8 [Value.int .i64 0]).toArray[j % 8]!) = true
  rcases (by omega : j % 8 = 0 ∨ j % 8 = 1 ∨ j % 8 = 2 ∨ j % 8 = 3 ∨ j % 8 = 4 ∨ j % 8 = 5 ∨ j % 8 = 6 ∨ j % 8 = 7) with e | e | e | e | e | e | e | e <;> rw [e] <;> rfl
theorem overlapsFn : Extern.findNext Try.f55 = none ∧ Extern.find Try.f55 = some (Extern.SlicesOverlaps.overlaps #[39, 39] #[4]) := ⟨by kernel_rfl, by kernel_rfl⟩
theorem insert_ok (T : World) (h : Hp) (B : Nat) (p : Option Addr) (cap i : Nat) (l : List Vt) (x : Vt) (bv : Nat) (own : Ots B 43 voteC 8 h (.slice p l.length cap) l) (hB : B ≤ h.size) (hi : i ≤ l.length) (hl : l.length ≤ 1000000)
    (hx : h[bv]? = some (.cells (voteC x).toArray 43)) (hne : cap ≠ 0 → ∀ b o, p = some ⟨b, o, none⟩ → b ≠ bv) :
    CallsH Try.prog T 32 #[.slice p l.length cap, .int .i64 i, .slice (some ⟨bv, 0, none⟩) 1 1] h fun v' h' => Ots B 43 voteC 8 h' v' (l.take i ++ x :: l.drop i) ∧ Bel B h h' := by
  refine CallsH.of_code' (args := [_, _, _]) Try.func32 rfl rfl rfl rfl ?_
  have hlc : l.length ≤ cap := by
    obtain ⟨_, _, e, h⟩ := own.open
    simp only [Value.slice.injEq] at e
    omega
  have n1 : (0 : Int) ≤ (i : Int) := by omega
  have n2 : (i : Int) ≤ (l.length : Int) := by omega
  have sx : Ts voteC 8 h (.slice (some ⟨bv, 0, none⟩) 1 1) [x] := ⟨by
    have := sl_of_get (pre := []) (cs := voteC x) (post := []) (m := 1) (n := 8) (c := 1) (by rw [List.append_nil, List.nil_append]; exact hx) rfl rfl
    simpa [encs] using this⟩
  by_cases hin : i = l.length
  · subst hin
    have k1 : ((1 : Nat) : Int) = 1 := rfl
    by_cases c0 : cap = 0
    · obtain rfl : l = [] := List.eq_nil_of_length_eq_zero (by omega)
      subst c0
      rw [List.length_nil] at own ⊢
      have k0 : ((0 : Nat) : Int) = 0 := rfl
      simp (config := {maxSteps := 2000000, implicitDefEqProofs := false}) only [go_sem, ↓reduceIte, Nat.reduceEqDiff, Nat.reduceAdd, Nat.reduceMul, Nat.reduceLeDiff, Nat.reduceLT, Nat.reduceSub, IntWalk.iteOmega, IntWalk.toNatUp, reduceCtorEq, false_and, and_false, false_or, or_false, true_or, or_true, not_true_eq_false, not_false_eq_true, Bool.not_true, Bool.not_false, Bool.and_true, Bool.true_and, Bool.and_false, Bool.false_and, Bool.not_eq_true, beq_self_eq_true, Nat.add_zero, Int.reduceLE, Int.reduceLT, Int.reduceToNat, Int.reduceNeg, k0, k1]
      refine append_ts (E := 43) (B := B) (n := 8) (bytes := 64) tsl39 Try.underlying39 tn43 tz43 rfl tb43 (fun _ => rfl) own hB sx (by simp only [List.length_singleton, List.length_nil]; omega) (by omega) ?_
      intro v' h' ho hb _
      simp (config := {maxSteps := 2000000, implicitDefEqProofs := false}) only [go_sem, ↓reduceIte, Nat.reduceEqDiff, Nat.reduceAdd, Nat.reduceMul, Nat.reduceLeDiff, Nat.reduceLT, Nat.reduceSub, IntWalk.iteOmega, IntWalk.toNatUp, reduceCtorEq, false_and, and_false, false_or, or_false, true_or, or_true, not_true_eq_false, not_false_eq_true, Bool.not_true, Bool.not_false, Bool.and_true, Bool.true_and, Bool.and_false, Bool.false_and, Bool.not_eq_true, beq_self_eq_true, Nat.add_zero, Int.reduceLE, Int.reduceLT, Int.reduceToNat, Int.reduceNeg]
      exact ⟨ho, hb⟩
    · obtain ⟨b, spare, hBb, rfl, hg, _, hsp, _⟩ := own.own.spare c0
      have hz : (l.length : Int) ≤ (l.length : Int) := Int.le_refl _
      simp (config := {maxSteps := 2000000, implicitDefEqProofs := false}) only [go_sem, ↓reduceIte, Nat.reduceEqDiff, Nat.reduceAdd, Nat.reduceMul, Nat.reduceLeDiff, Nat.reduceLT, Nat.reduceSub, IntWalk.iteOmega, IntWalk.toNatUp, reduceCtorEq, false_and, and_false, false_or, or_false, true_or, or_true, not_true_eq_false, not_false_eq_true, Bool.not_true, Bool.not_false, Bool.and_true, Bool.true_and, Bool.and_false, Bool.false_and, Bool.not_eq_true, beq_self_eq_true, Nat.add_zero, Int.reduceLE, Int.reduceLT, Int.reduceToNat, Int.reduceNeg, n1, n2, k1, Int.toNat_natCast]
      refine append_ts (E := 43) (B := B) (n := 8) (bytes := 64) tsl39 Try.underlying39 tn43 tz43 rfl tb43 (fun _ => rfl) own hB sx (by simp only [List.length_singleton]; omega) (by omega) ?_
      intro v' h' ho hb _
      simp (config := {maxSteps := 2000000, implicitDefEqProofs := false}) only [go_sem, ↓reduceIte, Nat.reduceEqDiff, Nat.reduceAdd, Nat.reduceMul, Nat.reduceLeDiff, Nat.reduceLT, Nat.reduceSub, IntWalk.iteOmega, IntWalk.toNatUp, reduceCtorEq, false_and, and_false, false_or, or_false, true_or, or_true, not_true_eq_false, not_false_eq_true, Bool.not_true, Bool.not_false, Bool.and_true, Bool.true_and, Bool.and_false, Bool.false_and, Bool.not_eq_true, beq_self_eq_true, Nat.add_zero, Int.reduceLE, Int.reduceLT, Int.reduceToNat, Int.reduceNeg]
      rw [List.take_length, List.drop_length]
      exact ⟨ho, hb⟩
  have hil : i < l.length := by omega
  have hi' : ¬ (i : Int) = (l.length : Int) := by omega
  have c0 : cap ≠ 0 := by omega
  obtain ⟨b, spare, hBb, rfl, hg, _, hsp, _⟩ := own.own.spare c0
  have hbv : b ≠ bv := hne c0 b 0 rfl
  have et : l = l.take i ++ (l[i] :: l.drop (i + 1)) := by
    conv => lhs; rw [← List.take_append_drop i l, List.drop_eq_getElem_cons hil]
  have ed : encs voteC (l.drop i) = voteC l[i] ++ encs voteC (l.drop (i + 1)) := by
    rw [List.drop_eq_getElem_cons hil]; rfl
  have ee : encs voteC l = encs voteC (l.take i) ++ encs voteC (l.drop i) := by rw [← encs_append, List.take_append_drop]
  have lt : (encs voteC (l.take i)).length = i * 8 := by rw [encV_length, List.length_take]; congr 1; omega
  have ld : (encs voteC (l.drop i)).length = (l.length - i) * 8 := by rw [encV_length, List.length_drop]
  have efin : encs voteC (l.take i ++ x :: l.drop i) = encs voteC (l.take i) ++ (voteC x ++ encs voteC (l.drop i)) := by rw [encs_append]; rfl
  have lfin : (l.take i ++ x :: l.drop i).length = l.length + 1 := by rw [List.length_append, List.length_take, List.length_cons, List.length_drop]; omega
  have c1 : ¬ cap = i := by omega
  have m1 : (l.length : Int) + 1 = ((l.length + 1 : Nat) : Int) := by omega
  have m2 : ((l.length + 1 : Nat) : Int) - (i : Int) = ((l.length + 1 - i : Nat) : Int) := by omega
  have m3 : (i : Int) + 1 = ((i + 1 : Nat) : Int) := by omega
  have k1 : ((1 : Nat) : Int) = 1 := rfl
  by_cases hcap : cap < l.length + 1
  · have hcap' : (cap : Int) < ((l.length + 1 : Nat) : Int) := by omega
    have n3 : (i : Int) ≤ (cap : Int) := by omega
    simp (config := {maxSteps := 2000000, implicitDefEqProofs := false}) only [go_sem, ↓reduceIte, Nat.reduceEqDiff, Nat.reduceAdd, Nat.reduceMul, Nat.reduceLeDiff, Nat.reduceLT, Nat.reduceSub, IntWalk.iteOmega, IntWalk.toNatUp, reduceCtorEq, false_and, and_false, false_or, or_false, true_or, or_true, not_true_eq_false, not_false_eq_true, Bool.not_true, Bool.not_false, Bool.and_true, Bool.true_and, Bool.and_false, Bool.false_and, Bool.not_eq_true, beq_self_eq_true, Nat.add_zero, Int.reduceLE, Int.reduceLT, Int.reduceToNat, Int.reduceNeg, n1, n2, n3, k1, hi', m1, hcap', m2, Int.toNat_natCast]
    have own2 : Own B 43 8 h (.slice (some ⟨b, 0, none⟩) i cap) i (encs voteC (l.take i)) := by
      have := own.own.fore hi
      rw [ee, List.take_left' lt] at this
      exact this
    refine append_made2 (E := 43) (B := B) (n := 8) (m := i) (k := l.length + 1 - i) (bytes := 64) (zs := rep 8 [Value.int .i64 0]) tsl39 Try.underlying3 tn43 tz43 rfl (by decide) tb43 own2 hB (zeroV_one _) (by omega) (by omega) ?_
    intro w g ow _ hnew
    obtain ⟨hbg, c2, rfl⟩ := hnew _ _ rfl (by omega)
    obtain ⟨Z, hZ⟩ : ∃ Z, Z = (Builtin.zeroCells (rep 8 [Value.int .i64 0]).toArray (l.length + 1 - i)).toList := ⟨_, rfl⟩
    have lZ := zeroV (l.length + 1 - i)
    rw [← hZ] at ow lZ
    have ec : i + (l.length + 1 - i) = l.length + 1 := by omega
    rw [ec] at ow ⊢
    rcases ow with ⟨_, h0, _⟩ | ⟨b2, cap2, sp2, _, hv2, hg2, _, hs2, hc2⟩
    · omega
    simp only [Value.slice.injEq, Option.some.injEq, Addr.mk.injEq, true_and, and_true] at hv2
    obtain ⟨rfl, rfl⟩ := hv2
    have d1 : ¬ c2 = i := by omega
    have d2 : (i : Int) ≤ ((l.length + 1 : Nat) : Int) := by omega
    have hbl := lt_of_get hg
    have hvl := lt_of_get hx
    have hgb : g[b]? = _ := hbg.get hbl hg
    have hgv : g[bv]? = _ := hbg.get hvl hx
    have sx1 : Sl 8 g (.slice (some ⟨bv, 0, none⟩) 1 1) 1 (voteC x) := sl_of_get (pre := []) (post := []) (by rw [List.append_nil, List.nil_append]; exact hgv) rfl rfl
    have min1 : min 1 (l.length + 1 - i) = 1 := by omega
    have eZ : encs voteC (l.take i) ++ Z ++ sp2 = encs voteC (l.take i) ++ (Z.take 8 ++ (Z.drop 8 ++ sp2)) := by rw [List.append_assoc, ← List.append_assoc (Z.take 8), List.take_append_drop]
    have lz8 : (Z.take 8).length = 8 := by rw [List.length_take]; omega
    have ldz : (Z.drop 8).length = (l.length - i) * 8 := by rw [List.length_drop]; omega
    have ec1 : lput (encs voteC (l.take i) ++ Z ++ sp2) (i * 8) ((voteC x).take (1 * 8)) = (encs voteC (l.take i) ++ voteC x) ++ (Z.drop 8 ++ sp2) := by
      rw [show (voteC x).take (1 * 8) = voteC x from rfl, eZ, lput_at lt.symm (by rw [lz8]; rfl), List.append_assoc]
    simp (config := {maxSteps := 2000000, implicitDefEqProofs := false}) only [go_sem, ↓reduceIte, Nat.reduceEqDiff, Nat.reduceAdd, Nat.reduceMul, Nat.reduceLeDiff, Nat.reduceLT, Nat.reduceSub, IntWalk.iteOmega, IntWalk.toNatUp, reduceCtorEq, false_and, and_false, false_or, or_false, true_or, or_true, not_true_eq_false, not_false_eq_true, Bool.not_true, Bool.not_false, Bool.and_true, Bool.true_and, Bool.and_false, Bool.false_and, Bool.not_eq_true, beq_self_eq_true, Nat.add_zero, Int.reduceLE, Int.reduceLT, Int.reduceToNat, Int.reduceNeg, n1, d1, d2, Int.toNat_natCast, Nat.zero_add]
    refine copy_many (E := 43) (n := 8) tsl39 tn43 hg2 sx1 rfl ?_ ?_
    · rw [min1, List.length_append, List.length_append, lt, lZ]; omega
    rw [min1, ec1]
    obtain ⟨g2, hg2e⟩ : ∃ g2 : Hp, g2 = g.setIfInBounds h.size (.cells ((encs voteC (l.take i) ++ voteC x) ++ (Z.drop 8 ++ sp2)).toArray 43) := ⟨_, rfl⟩
    rw [← hg2e]
    have g2n : g2[h.size]? = some (.cells ((encs voteC (l.take i) ++ voteC x) ++ (Z.drop 8 ++ sp2)).toArray 43) := by rw [hg2e]; exact get_set hg2
    have g2b : g2[b]? = some (.cells (encs voteC (l.take i) ++ (encs voteC (l.drop i) ++ spare)).toArray 43) := by rw [hg2e, get_set_ne (by omega), hgb, ee, List.append_assoc]
    have bg2 : Bel h.size h g2 := by rw [hg2e]; exact hbg.addSet (Nat.le_refl _) _
    clear hg2e
    have m4 : (i : Int) + 1 = ((i + 1 : Nat) : Int) := by omega
    have d3 : ¬ c2 = i + 1 := by omega
    have d4 : ((i + 1 : Nat) : Int) ≤ ((l.length + 1 : Nat) : Int) := by omega
    have d5 : (0 : Int) ≤ ((i + 1 : Nat) : Int) := by omega
    simp (config := {maxSteps := 2000000, implicitDefEqProofs := false}) only [go_sem, ↓reduceIte, Nat.reduceEqDiff, Nat.reduceAdd, Nat.reduceMul, Nat.reduceLeDiff, Nat.reduceLT, Nat.reduceSub, IntWalk.iteOmega, IntWalk.toNatUp, reduceCtorEq, false_and, and_false, false_or, or_false, true_or, or_true, not_true_eq_false, not_false_eq_true, Bool.not_true, Bool.not_false, Bool.and_true, Bool.true_and, Bool.and_false, Bool.false_and, Bool.not_eq_true, beq_self_eq_true, Nat.add_zero, Int.reduceLE, Int.reduceLT, Int.reduceToNat, Int.reduceNeg]
    refine VS.w (h.size) [8] (.q 0 (.q 1 (.q 2 (.q 3 (.q 4 (.q 5 (.q 6 (.q 7 (.w 8 .nil))))))))) mixed (by kernel_rfl) ?_
    simp (config := {maxSteps := 2000000, implicitDefEqProofs := false}) only [go_sem, ↓reduceIte, Nat.reduceEqDiff, Nat.reduceAdd, Nat.reduceMul, Nat.reduceLeDiff, Nat.reduceLT, Nat.reduceSub, IntWalk.iteOmega, IntWalk.toNatUp, reduceCtorEq, false_and, and_false, false_or, or_false, true_or, or_true, not_true_eq_false, not_false_eq_true, Bool.not_true, Bool.not_false, Bool.and_true, Bool.true_and, Bool.and_false, Bool.false_and, Bool.not_eq_true, beq_self_eq_true, Nat.add_zero, Int.reduceLE, Int.reduceLT, Int.reduceToNat, Int.reduceNeg, n1, n2, m4, k1, d3, d4, d5, c1, Int.toNat_natCast, Nat.zero_add]
    have ss : Sl 8 g2 (.slice (some ⟨b, i * 8, none⟩) (l.length - i) (cap - i)) (l.length - i) (encs voteC (l.drop i)) := sl_of_get g2b ld lt.symm
    have min2 : min (l.length - i) (l.length + 1 - (i + 1)) = l.length - i := by omega
    have etk : (encs voteC (l.drop i)).take ((l.length - i) * 8) = encs voteC (l.drop i) := List.take_of_length_le (by omega)
    have ec2 : lput ((encs voteC (l.take i) ++ voteC x) ++ (Z.drop 8 ++ sp2)) ((i + 1) * 8) ((encs voteC (l.drop i)).take ((l.length - i) * 8)) = encs voteC (l.take i ++ x :: l.drop i) ++ sp2 := by
      rw [etk, lput_at (by rw [List.length_append, lt]; show (i + 1) * 8 = i * 8 + 8; omega) (by rw [ld, ldz]), efin]
      simp only [List.append_assoc]
    refine copy_many (E := 43) (n := 8) tsl39 tn43 g2n ss (encV_one _) ?_ ?_
    · rw [min2, List.length_append, List.length_append, List.length_append, lt, ldz]; show _ ≤ i * 8 + 8 + _; omega
    rw [min2, ec2]
    simp (config := {maxSteps := 2000000, implicitDefEqProofs := false}) only [go_sem, ↓reduceIte, Nat.reduceEqDiff, Nat.reduceAdd, Nat.reduceMul, Nat.reduceLeDiff, Nat.reduceLT, Nat.reduceSub, IntWalk.iteOmega, IntWalk.toNatUp, reduceCtorEq, false_and, and_false, false_or, or_false, true_or, or_true, not_true_eq_false, not_false_eq_true, Bool.not_true, Bool.not_false, Bool.and_true, Bool.true_and, Bool.and_false, Bool.false_and, Bool.not_eq_true, beq_self_eq_true, Nat.add_zero, Int.reduceLE, Int.reduceLT, Int.reduceToNat, Int.reduceNeg]
    refine ⟨⟨?_⟩, (bg2.addSet (Nat.le_refl _) _).mono hB⟩
    rw [lfin]
    exact Own.of_get hB (get_set g2n) (by rw [encV_length, lfin]) hs2 hc2
  · have hcap' : ¬ (cap : Int) < ((l.length + 1 : Nat) : Int) := by omega
    have hcap2 : ((l.length + 1 : Nat) : Int) ≤ (cap : Int) := by omega
    have n4 : (0 : Int) ≤ ((l.length + 1 : Nat) : Int) := by omega
    have m4 : (i : Int) + 1 = ((i + 1 : Nat) : Int) := by omega
    have d4 : ((i + 1 : Nat) : Int) ≤ ((l.length + 1 : Nat) : Int) := by omega
    have d5 : (0 : Int) ≤ ((i + 1 : Nat) : Int) := by omega
    have d3 : ¬ cap = i + 1 := by omega
    simp (config := {maxSteps := 2000000, implicitDefEqProofs := false}) only [go_sem, ↓reduceIte, Nat.reduceEqDiff, Nat.reduceAdd, Nat.reduceMul, Nat.reduceLeDiff, Nat.reduceLT, Nat.reduceSub, IntWalk.iteOmega, IntWalk.toNatUp, reduceCtorEq, false_and, and_false, false_or, or_false, true_or, or_true, not_true_eq_false, not_false_eq_true, Bool.not_true, Bool.not_false, Bool.and_true, Bool.true_and, Bool.and_false, Bool.false_and, Bool.not_eq_true, beq_self_eq_true, Nat.add_zero, Int.reduceLE, Int.reduceLT, Int.reduceToNat, Int.reduceNeg, n1, n2, n4, k1, c1, hi', m1, hcap', hcap2, m4, d3, d4, d5, Int.toNat_natCast, Nat.zero_add]
    have gB : h[b]? = some (.cells (encs voteC l ++ spare).toArray 43 (0, 0)) := hg
    have gA : h[bv]? = some (.cells (voteC x).toArray 43 (0, 0)) := hx
    have lsp : 8 ≤ spare.length := by
      rw [hsp]
      have := Nat.mul_le_mul_right 8 (show 1 ≤ cap - l.length by omega)
      omega
    refine vCall_extern Try.func55 (by decide) rfl overlapsFn.1 overlapsFn.2 ?_
    refine run_overlaps (size := 8) Try.underlying39 tn43 (fun e => hbv e.symm) gA gB (by intro e; have := congrArg List.length e; rw [List.length_append, List.length_nil] at this; omega) ?_
    simp (config := {maxSteps := 2000000, implicitDefEqProofs := false}) only [go_sem, ↓reduceIte, Nat.reduceEqDiff, Nat.reduceAdd, Nat.reduceMul, Nat.reduceLeDiff, Nat.reduceLT, Nat.reduceSub, IntWalk.iteOmega, IntWalk.toNatUp, reduceCtorEq, false_and, and_false, false_or, or_false, true_or, or_true, not_true_eq_false, not_false_eq_true, Bool.not_true, Bool.not_false, Bool.and_true, Bool.true_and, Bool.and_false, Bool.false_and, Bool.not_eq_true, beq_self_eq_true, Nat.add_zero, Int.reduceLE, Int.reduceLT, Int.reduceToNat, Int.reduceNeg]
    refine VS.w (B) [8] (.q 0 (.q 1 (.q 2 (.q 3 (.q 4 (.q 5 (.q 6 (.q 7 (.w 8 .nil))))))))) mixed (by kernel_rfl) ?_
    simp (config := {maxSteps := 2000000, implicitDefEqProofs := false}) only [go_sem, ↓reduceIte, Nat.reduceEqDiff, Nat.reduceAdd, Nat.reduceMul, Nat.reduceLeDiff, Nat.reduceLT, Nat.reduceSub, IntWalk.iteOmega, IntWalk.toNatUp, reduceCtorEq, false_and, and_false, false_or, or_false, true_or, or_true, not_true_eq_false, not_false_eq_true, Bool.not_true, Bool.not_false, Bool.and_true, Bool.true_and, Bool.and_false, Bool.false_and, Bool.not_eq_true, beq_self_eq_true, Nat.add_zero, Int.reduceLE, Int.reduceLT, Int.reduceToNat, Int.reduceNeg, n1, n2, m4, k1, d3, d4, d5, c1, Int.toNat_natCast, Nat.zero_add]
    have ss : Sl 8 h (.slice (some ⟨b, i * 8, none⟩) (l.length + 1 - i) (cap - i)) (l.length + 1 - i) (encs voteC (l.drop i) ++ spare.take 8) := sl_of_get (post := spare.drop 8) (by rw [hg, ee, List.append_assoc, List.append_assoc, List.take_append_drop]) (by rw [List.length_append, ld, List.length_take]; omega) lt.symm
    have min2 : min (l.length + 1 - i) (l.length + 1 - (i + 1)) = l.length - i := by omega
    have etk : (encs voteC (l.drop i) ++ spare.take 8).take ((l.length - i) * 8) = encs voteC (l.drop i) := List.take_left' ld
    have ld1 : (encs voteC (l.drop (i + 1))).length = (l.length - (i + 1)) * 8 := by rw [encV_length, List.length_drop]
    have ecc : encs voteC l ++ spare = (encs voteC (l.take i) ++ voteC l[i]) ++ ((encs voteC (l.drop (i + 1)) ++ spare.take 8) ++ spare.drop 8) := by
      rw [ee, ed]
      simp only [List.append_assoc, List.take_append_drop]
    have ec1 : lput (encs voteC l ++ spare) ((i + 1) * 8) (encs voteC (l.drop i)) = encs voteC (l.take i) ++ (voteC l[i] ++ (encs voteC (l.drop i) ++ spare.drop 8)) := by
      rw [ecc, lput_at (by rw [List.length_append, lt]; show (i + 1) * 8 = i * 8 + 8; omega) (by rw [ld, List.length_append, ld1, List.length_take]; omega), List.append_assoc]
    refine copy_part (E := 43) (n := 8) tsl39 tn43 gB ss (by rw [min2, etk]; exact encV_one _) ?_ ?_
    · rw [min2, List.length_append, encV_length]; omega
    rw [min2, etk, ec1]
    obtain ⟨g2, hg2e⟩ : ∃ g2 : Hp, g2 = h.setIfInBounds b (.cells (encs voteC (l.take i) ++ (voteC l[i] ++ (encs voteC (l.drop i) ++ spare.drop 8))).toArray 43) := ⟨_, rfl⟩
    rw [← hg2e]
    have g2n : g2[b]? = some (.cells (encs voteC (l.take i) ++ (voteC l[i] ++ (encs voteC (l.drop i) ++ spare.drop 8))).toArray 43) := by rw [hg2e]; exact get_set hg
    have g2v : g2[bv]? = some (.cells (voteC x).toArray 43) := by rw [hg2e, get_set_ne hbv]; exact hx
    have bg2 : Bel B h g2 := by rw [hg2e]; exact Bel.set hBb _
    clear hg2e
    have sx1 : Sl 8 g2 (.slice (some ⟨bv, 0, none⟩) 1 1) 1 (voteC x) := sl_of_get (pre := []) (post := []) (by rw [List.append_nil, List.nil_append]; exact g2v) rfl rfl
    have min1 : min 1 (l.length + 1 - i) = 1 := by omega
    have ec2 : lput (encs voteC (l.take i) ++ (voteC l[i] ++ (encs voteC (l.drop i) ++ spare.drop 8))) (i * 8) ((voteC x).take (1 * 8)) = encs voteC (l.take i ++ x :: l.drop i) ++ spare.drop 8 := by
      rw [show (voteC x).take (1 * 8) = voteC x from rfl, lput_at lt.symm (show (voteC x).length = (voteC l[i]).length from rfl), efin]
      simp only [List.append_assoc]
    simp (config := {maxSteps := 2000000, implicitDefEqProofs := false}) only [go_sem, ↓reduceIte, Nat.reduceEqDiff, Nat.reduceAdd, Nat.reduceMul, Nat.reduceLeDiff, Nat.reduceLT, Nat.reduceSub, IntWalk.iteOmega, IntWalk.toNatUp, reduceCtorEq, false_and, and_false, false_or, or_false, true_or, or_true, not_true_eq_false, not_false_eq_true, Bool.not_true, Bool.not_false, Bool.and_true, Bool.true_and, Bool.and_false, Bool.false_and, Bool.not_eq_true, beq_self_eq_true, Nat.add_zero, Int.reduceLE, Int.reduceLT, Int.reduceToNat, Int.reduceNeg, n1, n2, m4, k1, d3, d4, d5, c1, Int.toNat_natCast, Nat.zero_add]
    refine copy_many (E := 43) (n := 8) tsl39 tn43 g2n sx1 rfl ?_ ?_
    · rw [min1, List.length_append, List.length_append, lt]; show i * 8 + 1 * 8 ≤ i * 8 + (8 + _); omega
    rw [min1, ec2]
    simp (config := {maxSteps := 2000000, implicitDefEqProofs := false}) only [go_sem, ↓reduceIte, Nat.reduceEqDiff, Nat.reduceAdd, Nat.reduceMul, Nat.reduceLeDiff, Nat.reduceLT, Nat.reduceSub, IntWalk.iteOmega, IntWalk.toNatUp, reduceCtorEq, false_and, and_false, false_or, or_false, true_or, or_true, not_true_eq_false, not_false_eq_true, Bool.not_true, Bool.not_false, Bool.and_true, Bool.true_and, Bool.and_false, Bool.false_and, Bool.not_eq_true, beq_self_eq_true, Nat.add_zero, Int.reduceLE, Int.reduceLT, Int.reduceToNat, Int.reduceNeg]
    refine ⟨⟨?_⟩, bg2.trans (Bel.set hBb _)⟩
    rw [lfin]
    exact Own.of_get hBb (get_set g2n) (by rw [encV_length, lfin]) (by rw [List.length_drop, hsp]; omega) (by omega)
end Go.Proofs.Ytiakfdpmapmifaa
