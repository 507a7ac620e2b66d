/- The reference's quotient, its reading of bytes, small numbers and the secret's bits; no condition but those in the statements. -/
import Derived.Test.YtiakfdpmapmifaaCvm
import Derived.Test.YtiakfdpmapmifaaFldh
namespace Go.Proofs.Ytiakfdpmapmifaa
open Go Go.V
set_option linter.unusedSimpArgs false
set_option linter.unusedVariables false
set_option maxRecDepth 100000
/-- The power 2^255 - 21, as the reference reckons it. -/
def powR (a : Int) : Nat → Int
  | 0 => 1
  | n + 1 => if n = 252 ∨ n = 250 then powR a n * powR a n else powR a n * powR a n * a
theorem powR_powZ (a : Int) : ∀ n, powR a (n + 1) = powZ a n
  | 0 => by rw [powR, powR, powZ, if_neg (by omega)]; omega
  | n + 1 => by
    rw [powR, powR_powZ a n, powZ]
    by_cases e : n = 251 ∨ n = 249
    · rw [if_pos e, if_pos (by omega)]
    · rw [if_neg e, if_neg (by omega)]
def oneN : List Nat := [1, 0, 0, 0, 0, 0, 0, 0, 0, 0, 0, 0, 0, 0, 0, 0]
theorem oneN_rf : Rf oneN 1 := ⟨⟨rfl, by unfold oneN; intro x hx; simp at hx; omega, by decide⟩, rfl⟩
set_option maxHeartbeats 1000000 in
theorem curveOver_rf (T : World) (h : Hp) (va : Value) (a : List Nat) (x : Int) (sa : IT h va a) (ra : Rf a x) :
    CallsH Try.prog T 51 #[va] h fun v' h' => (∃ o, IT h' v' o ∧ Rf o (powZ x 254)) ∧ Bel h.size h h' := by
  refine CallsH.of_code' (args := [_]) Try.func51 rfl rfl rfl rfl ?_
  have s1 : IT (h.push (.cells (oneN.map nv).toArray 3)) (.slice (some ⟨h.size, 0, none⟩) 16 16) oneN := by
    have := Ts.made (h := h) (E := 3) (enc := fun x => [nv x]) (n := 1) (fun _ => rfl) oneN 16
    rw [encs_one] at this
    exact this
  obtain ⟨g1, hg1⟩ : ∃ g1 : Hp, g1 = h.push (.cells (oneN.map nv).toArray 3) := ⟨_, rfl⟩
  have b1 : Bel h.size h g1 := by rw [hg1]; exact Bel.push (Nat.le_refl _) _
  rw [← hg1] at s1
  have e1 : h.push (.cells #[.int .i64 1, .int .i64 0, .int .i64 0, .int .i64 0, .int .i64 0, .int .i64 0, .int .i64 0, .int .i64 0, .int .i64 0, .int .i64 0, .int .i64 0, .int .i64 0, .int .i64 0, .int .i64 0, .int .i64 0, .int .i64 0] 3) = g1 := hg1.symm
  clear hg1
  simp (config := {maxSteps := 2000000, implicitDefEqProofs := false}) only [go_sem, ↓reduceIte, Nat.reduceEqDiff, Nat.reduceAdd, Nat.reduceMul, Nat.reduceLeDiff, Nat.reduceLT, Nat.reduceSub, IntWalk.iteOmega, IntWalk.toNatUp, reduceCtorEq, false_and, and_false, false_or, or_false, true_or, or_true, not_true_eq_false, not_false_eq_true, Bool.not_true, Bool.not_false, Bool.and_true, Bool.true_and, Bool.and_false, Bool.false_and, Bool.not_eq_true, beq_self_eq_true, Nat.add_zero, Int.reduceLE, Int.reduceLT, Int.reduceToNat, Int.reduceNeg, e1]
  refine VS.loop' (fun F g => Bel h.size h g ∧ F 0 = va ∧ ∃ (n : Nat) (o : List Nat), n ≤ 255 ∧ F 4 = .int .i64 (254 - (n : Int)) ∧ IT g (F 3) o ∧ Rf o (powR x n))
    (fun F _ => (vi (F 4) + 1).toNat) rfl ⟨b1, rfl, 0, oneN, by omega, rfl, s1, oneN_rf⟩ ?_
  rintro F g ⟨hg, f0, n, o, hn, f4, so, ro⟩
  by_cases hlt : n < 255
  · have hge : 0 ≤ 254 - (n : Int) := by omega
    have hnext : (254 - (n : Int)) - 1 = 254 - ((n + 1 : Nat) : Int) := by omega
    have hμ : ((254 - ((n + 1 : Nat) : Int)) + 1).toNat < ((254 - (n : Int)) + 1).toNat := by omega
    by_cases e : n = 252 ∨ n = 250
    · have hp : powR x (n + 1) = powR x n * powR x n := by rw [powR, if_pos e]
      rcases e with rfl | rfl
      · have c1 : (254 : Int) - ((252 : Nat) : Int) = 2 := rfl
        rw [c1] at f4 hge hnext
        simp (config := {maxSteps := 2000000, implicitDefEqProofs := false}) only [go_sem, ↓reduceIte, Nat.reduceEqDiff, Nat.reduceAdd, Nat.reduceMul, Nat.reduceLeDiff, Nat.reduceLT, Nat.reduceSub, IntWalk.iteOmega, IntWalk.toNatUp, reduceCtorEq, false_and, and_false, false_or, or_false, true_or, or_true, not_true_eq_false, not_false_eq_true, Bool.not_true, Bool.not_false, Bool.and_true, Bool.true_and, Bool.and_false, Bool.false_and, Bool.not_eq_true, beq_self_eq_true, Nat.add_zero, Int.reduceLE, Int.reduceLT, Int.reduceToNat, Int.reduceNeg, f0, f4]
        refine (curveTimes_rf T g _ _ o o _ _ so so ro ro).use ?_
        rintro v1 g2 ⟨⟨o2, i2, r2⟩, b2⟩
        simp (config := {maxSteps := 2000000, implicitDefEqProofs := false}) only [go_sem, ↓reduceIte, Nat.reduceEqDiff, Nat.reduceAdd, Nat.reduceMul, Nat.reduceLeDiff, Nat.reduceLT, Nat.reduceSub, IntWalk.iteOmega, IntWalk.toNatUp, reduceCtorEq, false_and, and_false, false_or, or_false, true_or, or_true, not_true_eq_false, not_false_eq_true, Bool.not_true, Bool.not_false, Bool.and_true, Bool.true_and, Bool.and_false, Bool.false_and, Bool.not_eq_true, beq_self_eq_true, Nat.add_zero, Int.reduceLE, Int.reduceLT, Int.reduceToNat, Int.reduceNeg, f0, f4]
        exact ⟨⟨hg.trans (b2.mono hg.size), f0, 253, o2, by omega, rfl, i2, by rw [hp]; exact r2⟩, hμ⟩
      · have c1 : (254 : Int) - ((250 : Nat) : Int) = 4 := rfl
        rw [c1] at f4 hge hnext
        simp (config := {maxSteps := 2000000, implicitDefEqProofs := false}) only [go_sem, ↓reduceIte, Nat.reduceEqDiff, Nat.reduceAdd, Nat.reduceMul, Nat.reduceLeDiff, Nat.reduceLT, Nat.reduceSub, IntWalk.iteOmega, IntWalk.toNatUp, reduceCtorEq, false_and, and_false, false_or, or_false, true_or, or_true, not_true_eq_false, not_false_eq_true, Bool.not_true, Bool.not_false, Bool.and_true, Bool.true_and, Bool.and_false, Bool.false_and, Bool.not_eq_true, beq_self_eq_true, Nat.add_zero, Int.reduceLE, Int.reduceLT, Int.reduceToNat, Int.reduceNeg, f0, f4]
        refine (curveTimes_rf T g _ _ o o _ _ so so ro ro).use ?_
        rintro v1 g2 ⟨⟨o2, i2, r2⟩, b2⟩
        simp (config := {maxSteps := 2000000, implicitDefEqProofs := false}) only [go_sem, ↓reduceIte, Nat.reduceEqDiff, Nat.reduceAdd, Nat.reduceMul, Nat.reduceLeDiff, Nat.reduceLT, Nat.reduceSub, IntWalk.iteOmega, IntWalk.toNatUp, reduceCtorEq, false_and, and_false, false_or, or_false, true_or, or_true, not_true_eq_false, not_false_eq_true, Bool.not_true, Bool.not_false, Bool.and_true, Bool.true_and, Bool.and_false, Bool.false_and, Bool.not_eq_true, beq_self_eq_true, Nat.add_zero, Int.reduceLE, Int.reduceLT, Int.reduceToNat, Int.reduceNeg, f0, f4]
        exact ⟨⟨hg.trans (b2.mono hg.size), f0, 251, o2, by omega, rfl, i2, by rw [hp]; exact r2⟩, hμ⟩
    · have hp : powR x (n + 1) = powR x n * powR x n * x := by rw [powR, if_neg e]
      have n2 : ¬ 254 - (n : Int) = 2 := by omega
      have n4 : ¬ 254 - (n : Int) = 4 := by omega
      obtain ⟨m, hm⟩ : ∃ m : Int, m = 254 - (n : Int) := ⟨_, rfl⟩
      have hm1 : m ≤ 254 := by omega
      rw [← hm] at f4 hge hnext n2 n4 hμ
      simp (config := {maxSteps := 2000000, implicitDefEqProofs := false}) only [go_sem, ↓reduceIte, Nat.reduceEqDiff, Nat.reduceAdd, Nat.reduceMul, Nat.reduceLeDiff, Nat.reduceLT, Nat.reduceSub, IntWalk.iteOmega, IntWalk.toNatUp, reduceCtorEq, false_and, and_false, false_or, or_false, true_or, or_true, not_true_eq_false, not_false_eq_true, Bool.not_true, Bool.not_false, Bool.and_true, Bool.true_and, Bool.and_false, Bool.false_and, Bool.not_eq_true, beq_self_eq_true, Nat.add_zero, Int.reduceLE, Int.reduceLT, Int.reduceToNat, Int.reduceNeg, f0, f4, hge]
      refine (curveTimes_rf T g _ _ o o _ _ so so ro ro).use ?_
      rintro v1 g2 ⟨⟨o2, i2, r2⟩, b2⟩
      simp (config := {maxSteps := 2000000, implicitDefEqProofs := false}) only [go_sem, ↓reduceIte, Nat.reduceEqDiff, Nat.reduceAdd, Nat.reduceMul, Nat.reduceLeDiff, Nat.reduceLT, Nat.reduceSub, IntWalk.iteOmega, IntWalk.toNatUp, reduceCtorEq, false_and, and_false, false_or, or_false, true_or, or_true, not_true_eq_false, not_false_eq_true, Bool.not_true, Bool.not_false, Bool.and_true, Bool.true_and, Bool.and_false, Bool.false_and, Bool.not_eq_true, beq_self_eq_true, Nat.add_zero, Int.reduceLE, Int.reduceLT, Int.reduceToNat, Int.reduceNeg, f0, f4, n2, n4]
      refine (curveTimes_rf T g2 _ _ o2 a _ _ i2 ((sa.bel hg).bel b2) r2 ra).use ?_
      rintro v2 g3 ⟨⟨o3, i3, r3⟩, b3⟩
      have B3 : Bel g.size g g3 := b2.trans (b3.mono b2.size)
      simp (config := {maxSteps := 2000000, implicitDefEqProofs := false}) only [go_sem, ↓reduceIte, Nat.reduceEqDiff, Nat.reduceAdd, Nat.reduceMul, Nat.reduceLeDiff, Nat.reduceLT, Nat.reduceSub, IntWalk.iteOmega, IntWalk.toNatUp, reduceCtorEq, false_and, and_false, false_or, or_false, true_or, or_true, not_true_eq_false, not_false_eq_true, Bool.not_true, Bool.not_false, Bool.and_true, Bool.true_and, Bool.and_false, Bool.false_and, Bool.not_eq_true, beq_self_eq_true, Nat.add_zero, Int.reduceLE, Int.reduceLT, Int.reduceToNat, Int.reduceNeg, f0, f4, hnext]
      exact ⟨⟨hg.trans (B3.mono hg.size), f0, n + 1, o3, hlt, rfl, i3, by rw [hp]; exact r3⟩, hμ⟩
  · obtain rfl : n = 255 := by omega
    have c1 : (254 : Int) - ((255 : Nat) : Int) = -1 := rfl
    rw [c1] at f4
    rw [powR_powZ x 254] at ro
    simp (config := {maxSteps := 2000000, implicitDefEqProofs := false}) only [go_sem, ↓reduceIte, Nat.reduceEqDiff, Nat.reduceAdd, Nat.reduceMul, Nat.reduceLeDiff, Nat.reduceLT, Nat.reduceSub, IntWalk.iteOmega, IntWalk.toNatUp, reduceCtorEq, false_and, and_false, false_or, or_false, true_or, or_true, not_true_eq_false, not_false_eq_true, Bool.not_true, Bool.not_false, Bool.and_true, Bool.true_and, Bool.and_false, Bool.false_and, Bool.not_eq_true, beq_self_eq_true, Nat.add_zero, Int.reduceLE, Int.reduceLT, Int.reduceToNat, Int.reduceNeg, f0, f4]
    exact ⟨⟨o, so, ro⟩, hg⟩
def smallN (n : Nat) : List Nat := [n % 65536, n / 65536, 0, 0, 0, 0, 0, 0, 0, 0, 0, 0, 0, 0, 0, 0]
theorem smallN_rf {n : Nat} (hn : n < 4294967296) : Rf (smallN n) (n : Int) := by
  have hv : valE (smallN n) = n := by unfold smallN; simp only [valE]; omega
  refine ⟨⟨rfl, ?_, ?_⟩, ?_⟩
  · unfold smallN; intro x hx; simp at hx; omega
  · rw [hv]; unfold PN; omega
  · rw [hv]; exact Like.refl _
theorem curveSmall_rf (T : World) (h : Hp) (n : Nat) (hn : n < 4294967296) :
    CallsH Try.prog T 46 #[.int .i64 n] h fun v' h' => (∃ o, IT h' v' o ∧ Rf o (n : Int)) ∧ Bel h.size h h' := by
  refine CallsH.of_code' (args := [_]) Try.func46 rfl rfl rfl rfl ?_
  have s1 : IT (h.push (.cells ((smallN n).map nv).toArray 3)) (.slice (some ⟨h.size, 0, none⟩) 16 16) (smallN n) := by
    have := Ts.made (h := h) (E := 3) (enc := fun x => [nv x]) (n := 1) (fun _ => rfl) (smallN n) 16
    rw [encs_one] at this
    exact this
  have em : ((n : Nat) : Int).tmod 65536 = ((n % 65536 : Nat) : Int) := rfl
  have ed : ((n : Nat) : Int).tdiv 65536 = ((n / 65536 : Nat) : Int) := rfl
  simp (config := {maxSteps := 2000000, implicitDefEqProofs := false}) only [go_sem, ↓reduceIte, Nat.reduceEqDiff, Nat.reduceAdd, Nat.reduceMul, Nat.reduceLeDiff, Nat.reduceLT, Nat.reduceSub, IntWalk.iteOmega, IntWalk.toNatUp, reduceCtorEq, false_and, and_false, false_or, or_false, true_or, or_true, not_true_eq_false, not_false_eq_true, Bool.not_true, Bool.not_false, Bool.and_true, Bool.true_and, Bool.and_false, Bool.false_and, Bool.not_eq_true, beq_self_eq_true, Nat.add_zero, Int.reduceLE, Int.reduceLT, Int.reduceToNat, Int.reduceNeg, em, ed]
  exact ⟨_, s1, smallN_rf hn⟩
/-- What is read, digit by digit. -/
def rdN (l : List Nat) : Nat → List Nat
  | 0 => []
  | i + 1 => rdN l i ++ [l.getD (2 * i) 0 + 256 * l.getD (2 * i + 1) 0]
theorem rdN_length (l : List Nat) : ∀ i, (rdN l i).length = i
  | 0 => rfl
  | i + 1 => by rw [rdN, List.length_append, rdN_length l i]; rfl
theorem rdN_eg {l : List Nat} (w : ∀ x ∈ l, x < 256) : ∀ i, Eg (rdN l i)
  | 0 => Eg.nil
  | i + 1 => by
    have h1 := getD_byte w (2 * i)
    have h2 := getD_byte w (2 * i + 1)
    rw [rdN]; exact (rdN_eg w i).snoc (by omega)
theorem rdN_at (l : List Nat) : ∀ n i, i < n → (rdN l n).getD i 0 = l.getD (2 * i) 0 + 256 * l.getD (2 * i + 1) 0
  | n + 1, i, h => by
    rw [rdN, List.getD_eq_getElem?_getD]
    by_cases e : i = n
    · subst e
      rw [List.getElem?_append_right (by rw [rdN_length]; exact Nat.le_refl _), rdN_length, Nat.sub_self]; rfl
    · rw [List.getElem?_append_left (by rw [rdN_length]; omega), ← List.getD_eq_getElem?_getD]
      exact rdN_at l n i (by omega)
def rdE (l : List Nat) : List Nat := (rdN l 16).set 15 ((rdN l 16).getD 15 0 % 32768)
theorem valE_vS (l : List Nat) : ∀ n, ((valE (l.take n) : Nat) : Int) = vS (fun i => ((l.getD i 0 : Nat) : Int)) n
  | 0 => rfl
  | n + 1 => by
    rw [valE_take, Int.natCast_add, Int.natCast_mul, Int.natCast_pow, valE_vS l n]; rfl
theorem rdE_val (l : List Nat) : ((valE (rdE l) : Nat) : Int) = vF (fread l) := by
  have hl : (rdE l).length = 16 := by unfold rdE; rw [List.length_set, rdN_length]
  have h1 := valE_vS (rdE l) 16
  rw [List.take_of_length_le (by omega)] at h1
  rw [h1, vF_vS, fread_length]
  refine vS_congr 16 fun i hi => ?_
  rw [fread_at l i hi]
  unfold rdE
  by_cases e : i = 15
  · subst e
    rw [if_pos rfl, List.getD_eq_getElem?_getD, List.getElem?_set_self (by rw [rdN_length]; omega), rdN_at l 16 15 (by omega)]; rfl
  · rw [if_neg e, getD_set_ne (by omega), rdN_at l 16 i hi]
set_option maxHeartbeats 1000000 in
theorem curveRead_rf (T : World) (h : Hp) (v : Value) (l : List Nat) (s : Bs h v l) (hl : l.length = 32) :
    CallsH Try.prog T 45 #[v] h fun v' h' => (∃ o, IT h' v' o ∧ Rf o (vF (fread l))) ∧ Bel h.size h h' := by
  have hby := s.byte
  obtain ⟨p, cp, rfl, hcs⟩ := Bs.opend s
  obtain ⟨bb, ob, rfl, hbb, hcs⟩ := hcs (by intro e; rw [e] at hl; cases hl)
  rw [hl] at hcs ⊢
  refine CallsH.of_code' (args := [_]) Try.func45 rfl rfl rfl rfl ?_
  simp (config := {maxSteps := 2000000, implicitDefEqProofs := false}) only [go_sem, ↓reduceIte, Nat.reduceEqDiff, Nat.reduceAdd, Nat.reduceMul, Nat.reduceLeDiff, Nat.reduceLT, Nat.reduceSub, IntWalk.iteOmega, IntWalk.toNatUp, reduceCtorEq, false_and, and_false, false_or, or_false, true_or, or_true, not_true_eq_false, not_false_eq_true, Bool.not_true, Bool.not_false, Bool.and_true, Bool.true_and, Bool.and_false, Bool.false_and, Bool.not_eq_true, beq_self_eq_true, Nat.add_zero, Int.reduceLE, Int.reduceLT, Int.reduceToNat, Int.reduceNeg]
  refine VS.loop' (fun F g => Bel h.size h g ∧ F 0 = .slice (some ⟨bb, ob, none⟩) 32 cp ∧ ∃ i : Nat, i ≤ 16 ∧ F 4 = .int .i64 i ∧ IO h.size g (F 3) (rdN l i))
    (fun F _ => 16 - (vi (F 4)).toNat) rfl ⟨Bel.refl _ _, rfl, 0, by omega, rfl, Ots.nil _ _ _ _ _⟩ ?_
  rintro F g ⟨hg, f0, i, hi, f4, ho⟩
  by_cases hlt : i < 16
  · have hlt' : (i : Int) < 16 := by omega
    have g1 : V.hc g ⟨bb, ob + 2 * i, none⟩ = some (.int .u8 (l.getD (2 * i) 0 : Nat)) := by rw [hg.hc (by exact hbb)]; exact hcs _ (by omega)
    have g2 : V.hc g ⟨bb, ob + (2 * i + 1), none⟩ = some (.int .u8 (l.getD (2 * i + 1) 0 : Nat)) := by rw [hg.hc (by exact hbb)]; exact hcs _ (by omega)
    have h1 := getD_byte hby (2 * i)
    have h2 := getD_byte hby (2 * i + 1)
    obtain ⟨x, hx⟩ : ∃ x, x = l.getD (2 * i) 0 := ⟨_, rfl⟩
    obtain ⟨y, hy⟩ : ∃ y, y = l.getD (2 * i + 1) 0 := ⟨_, rfl⟩
    have hnx : rdN l (i + 1) = rdN l i ++ [x + 256 * y] := by rw [rdN, ← hx, ← hy]
    rw [← hx] at g1 h1
    rw [← hy] at g2 h2
    have e1 : 2 * (i : Int) = ((2 * i : Nat) : Int) := by omega
    have e2 : ((2 * i : Nat) : Int) + 1 = ((2 * i + 1 : Nat) : Int) := rfl
    have e3 : 256 * (y : Int) = ((256 * y : Nat) : Int) := by omega
    have e4 : (x : Int) + ((256 * y : Nat) : Int) = ((x + 256 * y : Nat) : Int) := by omega
    have l1 : ((2 * i : Nat) : Int) < 32 := by omega
    have l2 : ((2 * i + 1 : Nat) : Int) < 32 := by omega
    obtain ⟨d, hd⟩ : ∃ d, d = x + 256 * y := ⟨_, rfl⟩
    have hd2 : d < 65536 := by omega
    rw [← hd] at e4 hnx
    simp (config := {maxSteps := 2000000, implicitDefEqProofs := false}) only [go_sem, ↓reduceIte, Nat.reduceEqDiff, Nat.reduceAdd, Nat.reduceMul, Nat.reduceLeDiff, Nat.reduceLT, Nat.reduceSub, IntWalk.iteOmega, IntWalk.toNatUp, reduceCtorEq, false_and, and_false, false_or, or_false, true_or, or_true, not_true_eq_false, not_false_eq_true, Bool.not_true, Bool.not_false, Bool.and_true, Bool.true_and, Bool.and_false, Bool.false_and, Bool.not_eq_true, beq_self_eq_true, Nat.add_zero, Int.reduceLE, Int.reduceLT, Int.reduceToNat, Int.reduceNeg, f0, f4, hlt', e1, l1, g1]
    have hsz := hg.size
    refine VS.w (h.size) [] (.q 0 (.q 1 (.q 2 (.q 3 (.q 4 (.q 5 (.q 6 (.q 7 (.q 8 (.q 9 (.q 10 (.q 11 (.q 12 (.q 13 (.q 14 (.q 15 (.s 16 (.s 17 (.q 18 .nil))))))))))))))))))) mixed (by kernel_rfl) ?_
    simp (config := {maxSteps := 2000000, implicitDefEqProofs := false}) only [go_sem, ↓reduceIte, Nat.reduceEqDiff, Nat.reduceAdd, Nat.reduceMul, Nat.reduceLeDiff, Nat.reduceLT, Nat.reduceSub, IntWalk.iteOmega, IntWalk.toNatUp, reduceCtorEq, false_and, and_false, false_or, or_false, true_or, or_true, not_true_eq_false, not_false_eq_true, Bool.not_true, Bool.not_false, Bool.and_true, Bool.true_and, Bool.and_false, Bool.false_and, Bool.not_eq_true, beq_self_eq_true, Nat.add_zero, Int.reduceLE, Int.reduceLT, Int.reduceToNat, Int.reduceNeg, hbb, f0, f4, hlt', e1, e2, l1, l2, Int.toNat_natCast, g1, g2, e3, e4]
    refine ⟨Bel.push hsz _, ?_⟩
    refine append_ts (E := 3) (B := h.size) (n := 1) (bytes := 8) tsl72 Try.underlying72 tn3 tz3 rfl tb3 (fun _ => rfl) (ho.push _) (by have := hg.size; simp; omega) (Ts.one (enc := fun x => [nv x]) d (fun _ => rfl) 1) ?_ (by omega) ?_
    · simp only [List.length_singleton, rdN_length]; omega
    intro v' h' ho' hb2 _
    rw [← hnx] at ho'
    simp (config := {maxSteps := 2000000, implicitDefEqProofs := false}) only [go_sem, ↓reduceIte, Nat.reduceEqDiff, Nat.reduceAdd, Nat.reduceMul, Nat.reduceLeDiff, Nat.reduceLT, Nat.reduceSub, IntWalk.iteOmega, IntWalk.toNatUp, reduceCtorEq, false_and, and_false, false_or, or_false, true_or, or_true, not_true_eq_false, not_false_eq_true, Bool.not_true, Bool.not_false, Bool.and_true, Bool.true_and, Bool.and_false, Bool.false_and, Bool.not_eq_true, beq_self_eq_true, Nat.add_zero, Int.reduceLE, Int.reduceLT, Int.reduceToNat, Int.reduceNeg, f0, f4]
    have B2 : Bel h.size g h' := (Bel.push hsz _).trans hb2
    refine ⟨B2, ⟨hg.trans B2, f0, i + 1, hlt, rfl, ho'⟩, ?_⟩
    simp only [vi, updo_some, ↓reduceIte, f4]; omega
  · have hge : ¬ (i : Int) < 16 := by omega
    obtain rfl : i = 16 := by omega
    have c16 : ((16 : Nat) : Int) = 16 := rfl
    rw [c16] at f4
    have wN := rdN_eg hby 16
    have hlN := rdN_length l 16
    obtain ⟨n, hn⟩ : ∃ n, n = rdN l 16 := ⟨_, rfl⟩
    have hE : rdE l = n.set 15 (n.getD 15 0 % 32768) := by rw [hn]; rfl
    have hval := rdE_val l
    rw [hE] at hval
    rw [← hn] at ho wN hlN
    obtain ⟨q, cq, hf3, hcq⟩ := ho.open
    rw [hlN] at hf3 hcq
    have ho' := ho
    rw [hf3] at ho'
    obtain ⟨bu, spare, hbu, rfl, hgu, hcl, hsp, _⟩ := Own.spare (k := 16) (by have := ho'.own; rwa [hlN] at this) (by omega)
    rw [encs_one] at hgu
    have gx := cells_get hgu (i := 15) (by omega)
    unfold nv at gx
    have hx15 := wN.getD 15
    obtain ⟨x, hx⟩ : ∃ x, x = n.getD 15 0 := ⟨_, rfl⟩
    rw [← hx] at gx hx15 hval
    have em : ((x : Nat) : Int).tmod 32768 = ((x % 32768 : Nat) : Int) := rfl
    have c1 : wr1 g ⟨bu, 15, none⟩ (.int .i64 (x % 32768 : Nat)) = _ := cells_set (f := nv) hgu (i := 15) (by omega) (x % 32768) rfl
    obtain ⟨g3, hg3⟩ : ∃ g3 : Hp, g3 = g.setIfInBounds bu (.cells ((n.set 15 (x % 32768)).map nv ++ spare).toArray 3) := ⟨_, rfl⟩
    rw [← hg3] at c1
    have b3 : Bel h.size h g3 := by rw [hg3]; exact hg.addSet (by omega) _
    have xg3 : g3[bu]? = some (.cells ((n.set 15 (x % 32768)).map nv ++ spare).toArray 3) := by rw [hg3]; exact get_set hgu
    have o3 : IO h.size g3 (.slice (some ⟨bu, 0, none⟩) 16 cq) (n.set 15 (x % 32768)) := by
      have := nv_back (B := h.size) (b := bu) (c := cq) (by omega) xg3 (by rw [hsp, List.length_set]; omega) (by rw [List.length_set]; omega)
      rw [List.length_set, hlN] at this
      exact this
    have w3 : Eg (n.set 15 (x % 32768)) := wN.set _ (by omega)
    have l3 : (n.set 15 (x % 32768)).length = 16 := by rw [List.length_set, hlN]
    have v3 : valE (n.set 15 (x % 32768)) < H255 * 65536 ^ 16 := by
      have h1 := valE_lt w3
      rw [l3] at h1
      exact Nat.lt_trans h1 (by decide)
    clear hg3
    simp (config := {maxSteps := 2000000, implicitDefEqProofs := false}) only [go_sem, ↓reduceIte, Nat.reduceEqDiff, Nat.reduceAdd, Nat.reduceMul, Nat.reduceLeDiff, Nat.reduceLT, Nat.reduceSub, IntWalk.iteOmega, IntWalk.toNatUp, reduceCtorEq, false_and, and_false, false_or, or_false, true_or, or_true, not_true_eq_false, not_false_eq_true, Bool.not_true, Bool.not_false, Bool.and_true, Bool.true_and, Bool.and_false, Bool.false_and, Bool.not_eq_true, beq_self_eq_true, Nat.add_zero, Int.reduceLE, Int.reduceLT, Int.reduceToNat, Int.reduceNeg, f0, f4, hf3, gx, em, c1]
    refine (curveCut_ok T g3 _ _ o3.ts w3 (by omega) (by omega) v3).use ?_
    rintro v2 g4 ⟨⟨o, o2, c2, hv⟩, b4⟩
    simp (config := {maxSteps := 2000000, implicitDefEqProofs := false}) only [go_sem, ↓reduceIte, Nat.reduceEqDiff, Nat.reduceAdd, Nat.reduceMul, Nat.reduceLeDiff, Nat.reduceLT, Nat.reduceSub, IntWalk.iteOmega, IntWalk.toNatUp, reduceCtorEq, false_and, and_false, false_or, or_false, true_or, or_true, not_true_eq_false, not_false_eq_true, Bool.not_true, Bool.not_false, Bool.and_true, Bool.true_and, Bool.and_false, Bool.false_and, Bool.not_eq_true, beq_self_eq_true, Nat.add_zero, Int.reduceLE, Int.reduceLT, Int.reduceToNat, Int.reduceNeg]
    refine ⟨⟨o, o2.ts, c2, (like_mod hv).trans ?_⟩, b3.trans (b4.mono b3.size)⟩
    rw [hval]; exact Like.refl _
theorem getD_set_eq' {l : List Nat} {i x : Nat} (h : i < l.length) : (l.set i x).getD i 0 = x := by
  rw [List.getD_eq_getElem?_getD, List.getElem?_set_self h]; rfl
theorem clampK_0 {l : List Nat} (hl : l.length = 32) : (clampK l).getD 0 0 = l.getD 0 0 / 8 * 8 := by
  unfold clampK
  rw [getD_set_ne (by omega), getD_set_eq' (by omega)]
theorem clampK_31 {l : List Nat} (hl : l.length = 32) : (clampK l).getD 31 0 = 64 + l.getD 31 0 % 64 := by
  unfold clampK
  rw [getD_set_eq' (by rw [List.length_set]; omega)]
theorem clampK_mid {l : List Nat} {j : Nat} (h0 : j ≠ 0) (h31 : j ≠ 31) : (clampK l).getD j 0 = l.getD j 0 := by
  unfold clampK
  rw [getD_set_ne (by omega), getD_set_ne (by omega)]
theorem kbit_low {l : List Nat} (hl : l.length = 32) {i : Nat} (h3 : i < 3) : kbit (clampK l) i = false := by
  unfold kbit
  rw [show i / 8 = 0 by omega, clampK_0 hl]
  generalize l.getD 0 0 = x
  apply decide_eq_false
  obtain rfl | rfl | rfl : i = 0 ∨ i = 1 ∨ i = 2 := by omega
  · show ¬ x / 8 * 8 / 1 % 2 = 1; omega
  · show ¬ x / 8 * 8 / 2 % 2 = 1; omega
  · show ¬ x / 8 * 8 / 4 % 2 = 1; omega
theorem kbit_top {l : List Nat} (hl : l.length = 32) : kbit (clampK l) 254 = true := by
  unfold kbit
  rw [show 254 / 8 = 31 from rfl, clampK_31 hl]
  generalize l.getD 31 0 = x
  apply decide_eq_true
  show (64 + x % 64) / 64 % 2 = 1
  omega
theorem kbit_clamp {l : List Nat} (hl : l.length = 32) {i : Nat} (h3 : 3 ≤ i) (h254 : i < 254) : kbit (clampK l) i = decide (l.getD (i / 8) 0 / 2 ^ (i % 8) % 2 = 1) := by
  unfold kbit
  by_cases h0 : i / 8 = 0
  · rw [h0, clampK_0 hl]
    generalize l.getD 0 0 = x
    congr 2
    obtain h | h | h | h | h : i % 8 = 3 ∨ i % 8 = 4 ∨ i % 8 = 5 ∨ i % 8 = 6 ∨ i % 8 = 7 := by omega
    · rw [h]; show x / 8 * 8 / 8 % 2 = x / 8 % 2; omega
    · rw [h]; show x / 8 * 8 / 16 % 2 = x / 16 % 2; omega
    · rw [h]; show x / 8 * 8 / 32 % 2 = x / 32 % 2; omega
    · rw [h]; show x / 8 * 8 / 64 % 2 = x / 64 % 2; omega
    · rw [h]; show x / 8 * 8 / 128 % 2 = x / 128 % 2; omega
  · by_cases h31 : i / 8 = 31
    · rw [h31, clampK_31 hl]
      generalize l.getD 31 0 = x
      congr 2
      obtain h | h | h | h | h | h : i % 8 = 0 ∨ i % 8 = 1 ∨ i % 8 = 2 ∨ i % 8 = 3 ∨ i % 8 = 4 ∨ i % 8 = 5 := by omega
      · rw [h]; show (64 + x % 64) / 1 % 2 = x / 1 % 2; omega
      · rw [h]; show (64 + x % 64) / 2 % 2 = x / 2 % 2; omega
      · rw [h]; show (64 + x % 64) / 4 % 2 = x / 4 % 2; omega
      · rw [h]; show (64 + x % 64) / 8 % 2 = x / 8 % 2; omega
      · rw [h]; show (64 + x % 64) / 16 % 2 = x / 16 % 2; omega
      · rw [h]; show (64 + x % 64) / 32 % 2 = x / 32 % 2; omega
    · rw [clampK_mid h0 h31]
theorem bitAt_ok (T : World) (h : Hp) (v : Value) (l : List Nat) (s : Bs h v l) (hl : l.length = 32) (i : Nat) (hi : i ≤ 254) :
    CallsH Try.prog T 47 #[v, .int .i64 i] h fun v' h' => v' = .bool (kbit (clampK l) i) ∧ h' = h := by
  have hby := s.byte
  obtain ⟨p, cp, rfl, hcs⟩ := Bs.opend s
  obtain ⟨bb, ob, rfl, hbb, hcs⟩ := hcs (by intro e; rw [e] at hl; cases hl)
  rw [hl] at hcs ⊢
  refine CallsH.of_code' (args := [_, _]) Try.func47 rfl rfl rfl rfl ?_
  by_cases h3 : i < 3
  · have h3' : (i : Int) < 3 := by omega
    have hb : kbit (clampK l) i = false := kbit_low hl h3
    simp (config := {maxSteps := 2000000, implicitDefEqProofs := false}) only [go_sem, ↓reduceIte, Nat.reduceEqDiff, Nat.reduceAdd, Nat.reduceMul, Nat.reduceLeDiff, Nat.reduceLT, Nat.reduceSub, IntWalk.iteOmega, IntWalk.toNatUp, reduceCtorEq, false_and, and_false, false_or, or_false, true_or, or_true, not_true_eq_false, not_false_eq_true, Bool.not_true, Bool.not_false, Bool.and_true, Bool.true_and, Bool.and_false, Bool.false_and, Bool.not_eq_true, beq_self_eq_true, Nat.add_zero, Int.reduceLE, Int.reduceLT, Int.reduceToNat, Int.reduceNeg, h3', hb]
  · have h3' : ¬ (i : Int) < 3 := by omega
    by_cases h254 : i = 254
    · subst h254
      have hb : kbit (clampK l) 254 = true := kbit_top hl
      have hn : ((254 : Nat) : Int) = 254 := rfl
      rw [hn]
      simp (config := {maxSteps := 2000000, implicitDefEqProofs := false}) only [go_sem, ↓reduceIte, Nat.reduceEqDiff, Nat.reduceAdd, Nat.reduceMul, Nat.reduceLeDiff, Nat.reduceLT, Nat.reduceSub, IntWalk.iteOmega, IntWalk.toNatUp, reduceCtorEq, false_and, and_false, false_or, or_false, true_or, or_true, not_true_eq_false, not_false_eq_true, Bool.not_true, Bool.not_false, Bool.and_true, Bool.true_and, Bool.and_false, Bool.false_and, Bool.not_eq_true, beq_self_eq_true, Nat.add_zero, Int.reduceLE, Int.reduceLT, Int.reduceToNat, Int.reduceNeg, hb]
      refine VS.w (h.size) [] (.q 0 (.q 1 (.q 2 (.q 3 (.q 4 (.q 5 (.q 6 (.q 7 (.q 8 (.q 9 (.q 10 (.s 11 (.q 12 (.q 13 (.q 14 (.q 15 (.q 16 .nil))))))))))))))))) mixed (by kernel_rfl) ?_
      simp (config := {maxSteps := 2000000, implicitDefEqProofs := false}) only [go_sem, ↓reduceIte, Nat.reduceEqDiff, Nat.reduceAdd, Nat.reduceMul, Nat.reduceLeDiff, Nat.reduceLT, Nat.reduceSub, IntWalk.iteOmega, IntWalk.toNatUp, reduceCtorEq, false_and, and_false, false_or, or_false, true_or, or_true, not_true_eq_false, not_false_eq_true, Bool.not_true, Bool.not_false, Bool.and_true, Bool.true_and, Bool.and_false, Bool.false_and, Bool.not_eq_true, beq_self_eq_true, Nat.add_zero, Int.reduceLE, Int.reduceLT, Int.reduceToNat, Int.reduceNeg, hb]
    · have h254' : ¬ (i : Int) = 254 := by omega
      have hb := kbit_clamp hl (show 3 ≤ i by omega) (by omega)
      have g1 : V.hc h ⟨bb, ob + i / 8, none⟩ = some (.int .u8 (l.getD (i / 8) 0 : Nat)) := hcs _ (by omega)
      have hx := getD_byte hby (i / 8)
      obtain ⟨x, hxx⟩ : ∃ x, x = l.getD (i / 8) 0 := ⟨_, rfl⟩
      rw [← hxx] at g1 hx hb
      have d1 : (i : Int).tdiv 8 = ((i / 8 : Nat) : Int) := rfl
      have d2 : (i : Int).tmod 8 = ((i % 8 : Nat) : Int) := rfl
      have l1 : ((i / 8 : Nat) : Int) < 32 := by omega
      simp (config := {maxSteps := 2000000, implicitDefEqProofs := false}) only [go_sem, ↓reduceIte, Nat.reduceEqDiff, Nat.reduceAdd, Nat.reduceMul, Nat.reduceLeDiff, Nat.reduceLT, Nat.reduceSub, IntWalk.iteOmega, IntWalk.toNatUp, reduceCtorEq, false_and, and_false, false_or, or_false, true_or, or_true, not_true_eq_false, not_false_eq_true, Bool.not_true, Bool.not_false, Bool.and_true, Bool.true_and, Bool.and_false, Bool.false_and, Bool.not_eq_true, beq_self_eq_true, Nat.add_zero, Int.reduceLE, Int.reduceLT, Int.reduceToNat, Int.reduceNeg, h3', h254']
      refine VS.w (h.size) [] (.q 0 (.q 1 (.q 2 (.q 3 (.q 4 (.q 5 (.q 6 (.q 7 (.q 8 (.q 9 (.q 10 (.s 11 (.q 12 (.q 13 (.q 14 (.q 15 (.q 16 .nil))))))))))))))))) mixed (by kernel_rfl) ?_
      simp (config := {maxSteps := 2000000, implicitDefEqProofs := false}) only [go_sem, ↓reduceIte, Nat.reduceEqDiff, Nat.reduceAdd, Nat.reduceMul, Nat.reduceLeDiff, Nat.reduceLT, Nat.reduceSub, IntWalk.iteOmega, IntWalk.toNatUp, reduceCtorEq, false_and, and_false, false_or, or_false, true_or, or_true, not_true_eq_false, not_false_eq_true, Bool.not_true, Bool.not_false, Bool.and_true, Bool.true_and, Bool.and_false, Bool.false_and, Bool.not_eq_true, beq_self_eq_true, Nat.add_zero, Int.reduceLE, Int.reduceLT, Int.reduceToNat, Int.reduceNeg, h254', d1, d2, l1, Int.toNat_natCast, g1, hbb]
      refine (power_ok T h (i % 8) (by omega)).use ?_
      rintro _ _ ⟨rfl, rfl⟩
      have hp : 0 < 2 ^ (i % 8) := Nat.pow_pos (by omega)
      have hp2 : 2 ^ (i % 8) ≤ 2 ^ 7 := Nat.pow_le_pow_right (by omega) (by omega)
      obtain ⟨k, hk⟩ : ∃ k, k = 2 ^ (i % 8) := ⟨_, rfl⟩
      rw [← hk] at hp hp2 hb ⊢
      have hk0 : ¬ (k : Int) = 0 := by omega
      have hq : x / k ≤ 255 := Nat.le_trans (Nat.div_le_self _ _) (by omega)
      have d3 : ((x : Nat) : Int).tdiv (k : Int) = ((x / k : Nat) : Int) := rfl
      obtain ⟨q, hqq⟩ : ∃ q, q = x / k := ⟨_, rfl⟩
      rw [← hqq] at d3 hq hb
      have d4 : ((q : Nat) : Int).tmod 2 = ((q % 2 : Nat) : Int) := rfl
      simp (config := {maxSteps := 2000000, implicitDefEqProofs := false}) only [go_sem, ↓reduceIte, Nat.reduceEqDiff, Nat.reduceAdd, Nat.reduceMul, Nat.reduceLeDiff, Nat.reduceLT, Nat.reduceSub, IntWalk.iteOmega, IntWalk.toNatUp, reduceCtorEq, false_and, and_false, false_or, or_false, true_or, or_true, not_true_eq_false, not_false_eq_true, Bool.not_true, Bool.not_false, Bool.and_true, Bool.true_and, Bool.and_false, Bool.false_and, Bool.not_eq_true, beq_self_eq_true, Nat.add_zero, Int.reduceLE, Int.reduceLT, Int.reduceToNat, Int.reduceNeg, hk0, d3, d4]
      rw [hb]
      congr 2
      apply propext
      omega
end Go.Proofs.Ytiakfdpmapmifaa
