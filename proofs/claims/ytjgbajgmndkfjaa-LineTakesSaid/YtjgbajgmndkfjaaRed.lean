/- The reference's number modulo 2^130 - 5; no condition but those in the statements. -/
import Derived.Test.YtjgbajgmndkfjaaCut
namespace Go.Proofs.Ytjgbajgmndkfjaa
open Go Go.V
set_option linter.unusedSimpArgs false
set_option linter.unusedVariables false
set_option maxRecDepth 100000
def P130 : Nat := 4 * 256 ^ 16 - 5
def vBd : Nat → Nat
  | 0 => 256 ^ 36
  | 1 => 2 ^ 161
  | 2 => 4 * 256 ^ 16 + 2 ^ 34
  | _ => 4 * 256 ^ 16
def lBd : Nat → Nat
  | 0 => 36
  | 1 => 23
  | _ => 18
theorem red_mod {v lo hi : Nat} (hv : v = lo + 4 * H16 * hi) : (lo + hi * 5) % P130 = v % P130 := by
  have e : v = (lo + hi * 5) + P130 * hi := by
    rw [hv]
    unfold P130 H16
    omega
  rw [e, Nat.add_mul_mod_self_left]
theorem red_bound {t v lo hi : Nat} (ht : t < 4) (hv : v = lo + 4 * H16 * hi) (hlo : lo < 4 * H16) (hb : v < vBd t) : lo + hi * 5 < vBd (t + 1) := by
  unfold H16 at *
  rcases t with _ | _ | _ | _ | t
  · simp only [vBd] at *; omega
  · simp only [vBd] at *; omega
  · simp only [vBd] at *; omega
  · simp only [vBd] at *; omega
  · omega
theorem red_len {t n m : Nat} (hn : n ≤ lBd t) (hm : m ≤ n - 16) (k : Nat) (hk : k ≤ 17) : max k (m + 1 + 1) + 1 ≤ lBd (t + 1) := by
  rcases t with _ | _ | t
  · simp only [lBd] at *; omega
  · simp only [lBd] at *; omega
  · simp only [lBd] at *; omega
theorem lBd_le (t : Nat) : lBd t ≤ 36 := by
  rcases t with _ | _ | t
  · decide
  · decide
  · show 18 ≤ 36; decide
theorem red_small {v lo hi : Nat} (hb : v < vBd 4) (hv : lo + 4 * H16 * hi = v + 5) (h0 : hi = 0) (hlo : lo < 4 * H16) : v = v % P130 := by
  rw [Nat.mod_eq_of_lt]
  subst h0
  unfold P130; unfold H16 at *; simp only [vBd] at *; omega
theorem red_big {v lo hi : Nat} (hb : v < vBd 4) (hv : lo + 4 * H16 * hi = v + 5) (h0 : ¬ hi = 0) (hlo : lo < 4 * H16) : lo = v % P130 := by
  have h1 : hi = 1 := by unfold H16 at *; simp only [vBd] at *; omega
  subst h1
  have e : v = lo + P130 * 1 := by unfold P130; unfold H16 at *; omega
  rw [e, Nat.add_mul_mod_self_left, Nat.mod_eq_of_lt]
  unfold P130; unfold H16 at *; simp only [vBd] at *; omega
theorem vBd_zero {l : List Nat} (w : Dg l) (hl : l.length ≤ 36) : valD l < vBd 0 := Nat.lt_of_lt_of_le (valD_lt w) (Nat.pow_le_pow_right (by omega) hl)
theorem valD_five : valD [5] = 5 := rfl
set_option maxHeartbeats 1000000 in
theorem reduced_ok (T : World) (h : Hp) (v : Value) (a : List Nat) (s : IT h v a) (w : Dg a) (hl : a.length ≤ 36) :
    CallsH Try.prog T 147 #[v, .int .i64 130, .int .i64 5] h fun v' h' => (∃ o, IO h.size h' v' o ∧ Dg o ∧ valD o = valD a % P130 ∧ o.length ≤ 18) ∧ Bel h.size h h' := by
  refine CallsH.of_code' (args := [_, _, _]) Try.func147 rfl rfl rfl rfl ?_
  simp (config := {maxSteps := 2000000, implicitDefEqProofs := false}) only [go_sem, ↓reduceIte, Nat.reduceEqDiff, Nat.reduceAdd, Nat.reduceMul, Nat.reduceLeDiff, Nat.reduceLT, Nat.reduceSub, IntWalk.iteOmega, IntWalk.toNatUp, reduceCtorEq, false_and, and_false, false_or, or_false, true_or, or_true, not_true_eq_false, not_false_eq_true, Bool.not_true, Bool.not_false, Bool.and_true, Bool.true_and, Bool.and_false, Bool.false_and, Bool.not_eq_true, beq_self_eq_true, Nat.add_zero, Int.reduceLE, Int.reduceLT, Int.reduceToNat, Int.reduceNeg]
  refine VS.loop' (fun F g => Bel h.size h g ∧ F 1 = .int .i64 130 ∧ F 2 = .int .i64 5 ∧ ∃ (t : Nat) (a' : List Nat), t ≤ 4 ∧ F 7 = .int .i64 t ∧ IT g (F 0) a' ∧ (0 < t → IO h.size g (F 0) a') ∧ Dg a' ∧ valD a' % P130 = valD a % P130 ∧ valD a' < vBd t ∧ a'.length ≤ lBd t)
    (fun F _ => 4 - (vi (F 7)).toNat) rfl ⟨Bel.refl _ _, rfl, rfl, 0, a, by omega, rfl, s, fun h => (Nat.lt_irrefl _ h).elim, w, rfl, vBd_zero w hl, hl⟩ ?_
  rintro F g ⟨hg, f1, f2, t, a', ht, f7, sa, oa, wa, hmod, hbd, hlen⟩
  have hl36 := lBd_le t
  by_cases hlt : t < 4
  · have hlt' : (t : Int) < 4 := by omega
    simp (config := {maxSteps := 2000000, implicitDefEqProofs := false}) only [go_sem, ↓reduceIte, Nat.reduceEqDiff, Nat.reduceAdd, Nat.reduceMul, Nat.reduceLeDiff, Nat.reduceLT, Nat.reduceSub, IntWalk.iteOmega, IntWalk.toNatUp, reduceCtorEq, false_and, and_false, false_or, or_false, true_or, or_true, not_true_eq_false, not_false_eq_true, Bool.not_true, Bool.not_false, Bool.and_true, Bool.true_and, Bool.and_false, Bool.false_and, Bool.not_eq_true, beq_self_eq_true, Nat.add_zero, Int.reduceLE, Int.reduceLT, Int.reduceToNat, Int.reduceNeg, f1, f2, f7, hlt']
    refine (cutDigits_ok T _ _ a' sa wa (by omega)).use ?_
    rintro _ g1 ⟨⟨v1, v2, lo, hi, rfl, o1, o2, w1, w2, hval, hlo, ll, lh⟩, b1⟩
    simp (config := {maxSteps := 2000000, implicitDefEqProofs := false}) only [go_sem, ↓reduceIte, Nat.reduceEqDiff, Nat.reduceAdd, Nat.reduceMul, Nat.reduceLeDiff, Nat.reduceLT, Nat.reduceSub, IntWalk.iteOmega, IntWalk.toNatUp, reduceCtorEq, false_and, and_false, false_or, or_false, true_or, or_true, not_true_eq_false, not_false_eq_true, Bool.not_true, Bool.not_false, Bool.and_true, Bool.true_and, Bool.and_false, Bool.false_and, Bool.not_eq_true, beq_self_eq_true, Nat.add_zero, Int.reduceLE, Int.reduceLT, Int.reduceToNat, Int.reduceNeg, f1, f2, f7]
    have s5 : IT (g1.push (.cells #[.int .i64 5] 3)) (.slice (some ⟨g1.size, 0, none⟩) 1 1) [5] := Ts.one (enc := fun x => [nv x]) 5 (fun _ => rfl) 1
    refine (timesDigits_ok T _ _ _ hi [5] (o2.push _).ts s5 w2 (Dg.one (by decide)) (by simp only [List.length_singleton]; omega)).use ?_
    rintro v3 g2 ⟨⟨m, o3, w3, hvm, hlm⟩, b2⟩
    have b2' : Bel g1.size g1 g2 := (Bel.push (Nat.le_refl _) _).trans (b2.mono (by simp))
    have o1' := o1.bel b2' (Nat.le_refl _)
    simp (config := {maxSteps := 2000000, implicitDefEqProofs := false}) only [go_sem, ↓reduceIte, Nat.reduceEqDiff, Nat.reduceAdd, Nat.reduceMul, Nat.reduceLeDiff, Nat.reduceLT, Nat.reduceSub, IntWalk.iteOmega, IntWalk.toNatUp, reduceCtorEq, false_and, and_false, false_or, or_false, true_or, or_true, not_true_eq_false, not_false_eq_true, Bool.not_true, Bool.not_false, Bool.and_true, Bool.true_and, Bool.and_false, Bool.false_and, Bool.not_eq_true, beq_self_eq_true, Nat.add_zero, Int.reduceLE, Int.reduceLT, Int.reduceToNat, Int.reduceNeg, f1, f2, f7]
    refine (addedDigits_ok T _ _ _ lo m o1'.ts o3.ts w1 w3 (by rw [hlm]; simp only [List.length_singleton]; omega)).use ?_
    rintro v4 g3 ⟨⟨n, o4, w4, hvn, hln⟩, b3⟩
    simp (config := {maxSteps := 2000000, implicitDefEqProofs := false}) only [go_sem, ↓reduceIte, Nat.reduceEqDiff, Nat.reduceAdd, Nat.reduceMul, Nat.reduceLeDiff, Nat.reduceLT, Nat.reduceSub, IntWalk.iteOmega, IntWalk.toNatUp, reduceCtorEq, false_and, and_false, false_or, or_false, true_or, or_true, not_true_eq_false, not_false_eq_true, Bool.not_true, Bool.not_false, Bool.and_true, Bool.true_and, Bool.and_false, Bool.false_and, Bool.not_eq_true, beq_self_eq_true, Nat.add_zero, Int.reduceLE, Int.reduceLT, Int.reduceToNat, Int.reduceNeg, f1, f2, f7]
    have hs1 := b1.size
    have hs2 := b2'.size
    have hs3 := b3.size
    have hs0 := hg.size
    have bb : Bel g.size g g3 := (b1.trans (b2'.mono hs1)).trans (b3.mono (by omega))
    rw [hvm, valD_five] at hvn
    rw [hlm, List.length_singleton] at hln
    have o4' : IO h.size g3 v4 n := o4.mono (by omega)
    refine ⟨⟨hg.trans (bb.mono hs0), f1, f2, t + 1, n, hlt, rfl, o4.ts, fun _ => o4', w4, ?_, ?_, ?_⟩, ?_⟩
    · rw [hvn, red_mod hval, hmod]
    · rw [hvn]; exact red_bound hlt hval hlo hbd
    · exact Nat.le_trans hln (red_len hlen lh lo.length ll)
    · simp only [vi, updo_some, ↓reduceIte, f7]; omega
  · have hge : ¬ (t : Int) < 4 := by omega
    obtain rfl : t = 4 := by omega
    have c4 : ((4 : Nat) : Int) = 4 := rfl
    rw [c4] at f7 hge
    have oa := oa (by decide)
    simp (config := {maxSteps := 2000000, implicitDefEqProofs := false}) only [go_sem, ↓reduceIte, Nat.reduceEqDiff, Nat.reduceAdd, Nat.reduceMul, Nat.reduceLeDiff, Nat.reduceLT, Nat.reduceSub, IntWalk.iteOmega, IntWalk.toNatUp, reduceCtorEq, false_and, and_false, false_or, or_false, true_or, or_true, not_true_eq_false, not_false_eq_true, Bool.not_true, Bool.not_false, Bool.and_true, Bool.true_and, Bool.and_false, Bool.false_and, Bool.not_eq_true, beq_self_eq_true, Nat.add_zero, Int.reduceLE, Int.reduceLT, Int.reduceToNat, Int.reduceNeg, f1, f2, f7, hge]
    have s5 : IT (g.push (.cells #[.int .i64 5] 3)) (.slice (some ⟨g.size, 0, none⟩) 1 1) [5] := Ts.one (enc := fun x => [nv x]) 5 (fun _ => rfl) 1
    refine (addedDigits_ok T _ _ _ a' [5] (oa.push _).ts s5 wa (Dg.one (by decide)) (by simp only [List.length_singleton]; omega)).use ?_
    rintro v1 g1 ⟨⟨u, o1, w1, hvu, hlu⟩, b1⟩
    have b1' : Bel g.size g g1 := (Bel.push (Nat.le_refl _) _).trans (b1.mono (by simp))
    have oa1 := oa.bel b1' (Nat.le_refl _)
    simp (config := {maxSteps := 2000000, implicitDefEqProofs := false}) only [go_sem, ↓reduceIte, Nat.reduceEqDiff, Nat.reduceAdd, Nat.reduceMul, Nat.reduceLeDiff, Nat.reduceLT, Nat.reduceSub, IntWalk.iteOmega, IntWalk.toNatUp, reduceCtorEq, false_and, and_false, false_or, or_false, true_or, or_true, not_true_eq_false, not_false_eq_true, Bool.not_true, Bool.not_false, Bool.and_true, Bool.true_and, Bool.and_false, Bool.false_and, Bool.not_eq_true, beq_self_eq_true, Nat.add_zero, Int.reduceLE, Int.reduceLT, Int.reduceToNat, Int.reduceNeg, f1, f2]
    refine (cutDigits_ok T _ _ u o1.ts w1 (by simp only [List.length_singleton] at hlu; omega)).use ?_
    rintro _ g2 ⟨⟨v2, v3, lo, hi, rfl, o2, o3, w2, w3, hval, hlo, ll, lh⟩, b2⟩
    have oa2 := oa1.bel b2 (Nat.le_refl _)
    rw [valD_five] at hvu
    rw [hvu] at hval
    have hs1 := b1'.size
    have hs2 := b2.size
    have hs0 := hg.size
    have bb : Bel g.size g g2 := b1'.trans (b2.mono hs1)
    simp (config := {maxSteps := 2000000, implicitDefEqProofs := false}) only [go_sem, ↓reduceIte, Nat.reduceEqDiff, Nat.reduceAdd, Nat.reduceMul, Nat.reduceLeDiff, Nat.reduceLT, Nat.reduceSub, IntWalk.iteOmega, IntWalk.toNatUp, reduceCtorEq, false_and, and_false, false_or, or_false, true_or, or_true, not_true_eq_false, not_false_eq_true, Bool.not_true, Bool.not_false, Bool.and_true, Bool.true_and, Bool.and_false, Bool.false_and, Bool.not_eq_true, beq_self_eq_true, Nat.add_zero, Int.reduceLE, Int.reduceLT, Int.reduceToNat, Int.reduceNeg, f1, f2]
    refine (noDigits_ok T _ _ hi o3.ts (by simp only [List.length_singleton] at hlu; omega)).pure ?_
    by_cases h0 : valD hi = 0
    · have hd : decide (valD hi = 0) = true := decide_eq_true h0
      simp (config := {maxSteps := 2000000, implicitDefEqProofs := false}) only [go_sem, ↓reduceIte, Nat.reduceEqDiff, Nat.reduceAdd, Nat.reduceMul, Nat.reduceLeDiff, Nat.reduceLT, Nat.reduceSub, IntWalk.iteOmega, IntWalk.toNatUp, reduceCtorEq, false_and, and_false, false_or, or_false, true_or, or_true, not_true_eq_false, not_false_eq_true, Bool.not_true, Bool.not_false, Bool.and_true, Bool.true_and, Bool.and_false, Bool.false_and, Bool.not_eq_true, beq_self_eq_true, Nat.add_zero, Int.reduceLE, Int.reduceLT, Int.reduceToNat, Int.reduceNeg, hd]
      exact ⟨⟨a', oa2, wa, (red_small hbd hval.symm h0 hlo).trans hmod, hlen⟩, hg.trans (bb.mono hs0)⟩
    · have hd : decide (valD hi = 0) = false := decide_eq_false h0
      simp (config := {maxSteps := 2000000, implicitDefEqProofs := false}) only [go_sem, ↓reduceIte, Nat.reduceEqDiff, Nat.reduceAdd, Nat.reduceMul, Nat.reduceLeDiff, Nat.reduceLT, Nat.reduceSub, IntWalk.iteOmega, IntWalk.toNatUp, reduceCtorEq, false_and, and_false, false_or, or_false, true_or, or_true, not_true_eq_false, not_false_eq_true, Bool.not_true, Bool.not_false, Bool.and_true, Bool.true_and, Bool.and_false, Bool.false_and, Bool.not_eq_true, beq_self_eq_true, Nat.add_zero, Int.reduceLE, Int.reduceLT, Int.reduceToNat, Int.reduceNeg, hd]
      exact ⟨⟨lo, o2.mono (by omega), w2, (red_big hbd hval.symm h0 hlo).trans hmod, by omega⟩, hg.trans (bb.mono hs0)⟩
end Go.Proofs.Ytjgbajgmndkfjaa
