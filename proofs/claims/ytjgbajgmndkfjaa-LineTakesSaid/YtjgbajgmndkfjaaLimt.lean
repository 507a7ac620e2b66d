/- The product of two numbers in limbs; no condition but those in the statements. -/
import Derived.Test.YtjgbajgmndkfjaaLim
namespace Go.Proofs.Ytjgbajgmndkfjaa
open Go Go.V
set_option linter.unusedSimpArgs false
set_option linter.unusedVariables false
set_option maxRecDepth 100000
theorem carry_ok (T : World) (h : Hp) (bk : Nat) (l : List Nat) (hl : l.length = 5) (w : LtAll (2 ^ 61) l) (hb : h[bk]? = some (limC l)) :
    CallsH Try.prog T 171 #[.pointer (some ⟨bk, 0, none⟩)] h fun v' h' => h' = h.setIfInBounds bk (limC (carryL l)) :=
  (carry_loop T h bk l hl w hb).mono fun v' h' ⟨a, ha, hh⟩ => by subst ha; exact hh
theorem nth_uv {l : List Nat} {i : Nat} (hi : i < l.length) : nth (l.map uv) i = some (.int .u64 (l.getD i 0 : Nat)) := by
  rw [nth_eq, List.getElem?_map, List.getElem?_eq_getElem hi, List.getD_eq_getElem?_getD, List.getElem?_eq_getElem hi]; rfl
theorem rd_lim {g : Hp} {b : Nat} {l : List Nat} (hl : l.length = 5) (hx : g[b]? = some (limC l)) : rd g ⟨b, 0, none⟩ 5 = some (l.map uv) := by
  unfold limC at hx
  rw [List.append_nil] at hx
  exact rd_last hx (by simpa using hl)
set_option maxHeartbeats 1000000 in
theorem limTimes_ok (T : World) (h : Hp) (xs bs : List Nat) (ha : xs.length = 5) (hb : bs.length = 5) (wa : LtAll 268435456 xs) (wb : LtAll 67108864 bs) :
    CallsH Try.prog T 142 #[.agg (xs.map uv).toArray, .agg (bs.map uv).toArray] h fun v' h' => v' = .agg ((carryL (tmat xs bs 5)).map uv).toArray ∧ Bel h.size h h' := by
  have la : (xs.map uv).length = 5 := by simpa using ha
  have lb : (bs.map uv).length = 5 := by simpa using hb
  have ta : (xs.map uv).take 5 = xs.map uv := List.take_of_length_le (by omega)
  refine CallsH.of_code' (args := [_, _]) Try.func142 rfl rfl rfl rfl ?_
  simp (config := {maxSteps := 2000000, implicitDefEqProofs := false}) only [go_sem, ↓reduceIte, Nat.reduceEqDiff, Nat.reduceAdd, Nat.reduceMul, Nat.reduceLeDiff, Nat.reduceLT, Nat.reduceSub, IntWalk.iteOmega, IntWalk.toNatUp, reduceCtorEq, false_and, and_false, false_or, or_false, true_or, or_true, not_true_eq_false, not_false_eq_true, Bool.not_true, Bool.not_false, Bool.and_true, Bool.true_and, Bool.and_false, Bool.false_and, Bool.not_eq_true, beq_self_eq_true, Nat.add_zero, Int.reduceLE, Int.reduceLT, Int.reduceToNat, Int.reduceNeg, la, lb, ta]
  obtain ⟨H, hH⟩ : ∃ H : Hp, H = ((((h.push (.cells (xs.map uv).toArray 165)).push (.cells (bs.map uv).toArray 165)).push (.cells #[.int .u64 0, .int .u64 0, .int .u64 0, .int .u64 0, .int .u64 0] 165)).push (.cells #[.int .u64 0, .int .u64 0, .int .u64 0, .int .u64 0, .int .u64 0] 165)) := ⟨_, rfl⟩
  have HB : Bel h.size h H := by rw [hH]; exact (((Bel.push (Nat.le_refl _) _).addP (by simp) _).addP (by simp; omega) _).addP (by simp; omega) _
  have Hs : H.size = h.size + 1 + 1 + 1 + 1 := by rw [hH]; simp
  have H1 : H[h.size + 1]? = some (limC bs) := by
    rw [hH, get_push_ne (by simp), get_push_ne (by simp)]
    have := get_push_last (h := h.push (.cells (xs.map uv).toArray 165)) (o := .cells (bs.map uv).toArray 165)
    rw [Array.size_push] at this
    rw [this]; unfold limC; rw [List.append_nil]
  have H3 : H[h.size + 1 + 1 + 1]? = some (limC (tmat xs bs 0)) := by
    have := get_push_last (h := (((h.push (.cells (xs.map uv).toArray 165)).push (.cells (bs.map uv).toArray 165)).push (.cells #[.int .u64 0, .int .u64 0, .int .u64 0, .int .u64 0, .int .u64 0] 165))) (o := .cells #[.int .u64 0, .int .u64 0, .int .u64 0, .int .u64 0, .int .u64 0] 165)
    rw [Array.size_push, Array.size_push, Array.size_push] at this
    rw [hH, this]; rfl
  have H2 : H[h.size + 1 + 1]? = some (limC [0, 0, 0, 0, 0]) := by
    have := get_push_last (h := ((h.push (.cells (xs.map uv).toArray 165)).push (.cells (bs.map uv).toArray 165))) (o := .cells #[.int .u64 0, .int .u64 0, .int .u64 0, .int .u64 0, .int .u64 0] 165)
    rw [Array.size_push, Array.size_push] at this
    rw [hH, get_push_ne (by simp), this]; rfl
  rw [← hH]
  clear hH
  obtain ⟨bo, hbo⟩ : ∃ bo, bo = h.size + 1 + 1 + 1 := ⟨_, rfl⟩
  obtain ⟨br, hbr⟩ : ∃ br, br = h.size + 1 + 1 := ⟨_, rfl⟩
  obtain ⟨bb, hbb⟩ : ∃ bb, bb = h.size + 1 := ⟨_, rfl⟩
  rw [← hbo] at H3 ⊢
  rw [← hbr] at H2 ⊢
  rw [← hbb] at H1 ⊢
  refine VS.loop' (fun F g => F 3 = .pointer (some ⟨bb, 0, none⟩) ∧ F 4 = .pointer (some ⟨br, 0, none⟩) ∧ F 5 = .pointer (some ⟨bo, 0, none⟩) ∧ F 10 = .agg (xs.map uv).toArray ∧ ∃ i : Nat, i ≤ 5 ∧ F 11 = .int .i64 i ∧ g = H.setIfInBounds bo (limC (tmat xs bs i)))
    (fun F _ => 5 - (vi (F 11)).toNat) rfl ⟨rfl, rfl, rfl, rfl, 0, by omega, rfl, (set_same H3).symm⟩ ?_
  rintro F g ⟨f3, f4, f5, f10, i, hi, f11, rfl⟩
  by_cases hlt : i < 5
  · have hlt' : (i : Int) < 5 := by omega
    have n1 := nth_uv (l := xs) (i := i) (by omega)
    have H1' : (H.setIfInBounds bo (limC (tmat xs bs i)))[bb]? = some (limC bs) := by rw [Array.getElem?_setIfInBounds, if_neg (by omega)]; exact H1
    have r1 := rd_lim hb H1'
    have wA := wa.getD (by omega) i
    have hrow : tmat xs bs (i + 1) = trow (xs.getD i 0) bs (tmat xs bs i) i 5 := rfl
    obtain ⟨a, hax⟩ : ∃ a, a = xs.getD i 0 := ⟨_, rfl⟩
    rw [← hax] at n1 wA hrow
    simp (config := {maxSteps := 2000000, implicitDefEqProofs := false}) only [go_sem, ↓reduceIte, Nat.reduceEqDiff, Nat.reduceAdd, Nat.reduceMul, Nat.reduceLeDiff, Nat.reduceLT, Nat.reduceSub, IntWalk.iteOmega, IntWalk.toNatUp, reduceCtorEq, false_and, and_false, false_or, or_false, true_or, or_true, not_true_eq_false, not_false_eq_true, Bool.not_true, Bool.not_false, Bool.and_true, Bool.true_and, Bool.and_false, Bool.false_and, Bool.not_eq_true, beq_self_eq_true, Nat.add_zero, Int.reduceLE, Int.reduceLT, Int.reduceToNat, Int.reduceNeg, f3, f4, f5, f10, f11, hlt', Int.toNat_natCast, n1, r1]
    have wO : LtAll (1 + i * 450359962737049600) (tmat xs bs i) := tmat_lt wa wb i
    have lO := tmat_length xs bs i
    obtain ⟨o, ho⟩ : ∃ o, o = tmat xs bs i := ⟨_, rfl⟩
    rw [← ho] at hrow wO lO ⊢
    refine VS.loop' (fun F g => F 3 = .pointer (some ⟨bb, 0, none⟩) ∧ F 4 = .pointer (some ⟨br, 0, none⟩) ∧ F 5 = .pointer (some ⟨bo, 0, none⟩) ∧ F 10 = .agg (xs.map uv).toArray ∧ F 11 = .int .i64 i ∧ F 6 = .int .i64 i ∧ F 7 = .int .u64 a ∧ F 15 = .agg (bs.map uv).toArray ∧ ∃ k : Nat, k ≤ 5 ∧ F 16 = .int .i64 k ∧ g = H.setIfInBounds bo (limC (trow a bs o i k)))
      (fun F _ => 5 - (vi (F 16)).toNat) rfl ⟨f3, f4, f5, f10, f11, rfl, rfl, rfl, 0, by omega, rfl, rfl⟩ ?_
    clear f3 f4 f5 f10 f11 F
    rintro F g ⟨f3, f4, f5, f10, f11, f6, f7, f15, k, hk, f16, rfl⟩
    by_cases hlk : k < 5
    · have hlk' : (k : Int) < 5 := by omega
      have n2 := nth_uv (l := bs) (i := k) (by omega)
      have wB := wb.getD (by omega) k
      have hstep : trow a bs o i (k + 1) = tstep a (bs.getD k 0) (trow a bs o i k) i k := rfl
      obtain ⟨b, hbx⟩ : ∃ b, b = bs.getD k 0 := ⟨_, rfl⟩
      rw [← hbx] at n2 wB hstep
      have wR := trow_lt wO (by omega) wA wb (i := i) k
      have lR : (trow a bs o i k).length = 5 := by rw [trow_length, lO]
      have hx : (H.setIfInBounds bo (limC (trow a bs o i k)))[bo]? = some (limC (trow a bs o i k)) := cells_new H3
      have hp := mul_bound wA wB
      have hp5 := mul_bound5 wA wB
      obtain ⟨r, hr⟩ : ∃ r, r = trow a bs o i k := ⟨_, rfl⟩
      rw [← hr] at hstep wR lR hx ⊢
      obtain ⟨G, hG⟩ : ∃ G, G = H.setIfInBounds bo (limC r) := ⟨_, rfl⟩
      rw [← hG] at hx ⊢
      have eik : (i : Int) + (k : Int) = ((i + k : Nat) : Int) := rfl
      by_cases h5 : i + k < 5
      · have h5' : ((i + k : Nat) : Int) < 5 := by omega
        have g1 := cells_get hx (i := i + k) (by omega)
        have y1 := wR.getD (by omega) (i + k)
        unfold uv at g1
        have hs : tstep a b r i k = r.set (i + k) (r.getD (i + k) 0 + a * b) := by unfold tstep; rw [if_pos h5]
        rw [hs] at hstep
        obtain ⟨y, hy⟩ : ∃ y, y = r.getD (i + k) 0 := ⟨_, rfl⟩
        rw [← hy] at g1 y1 hstep
        have e1 : (a : Int) * (b : Int) = ((a * b : Nat) : Int) := (Int.natCast_mul a b).symm
        have e2 : ((a * b : Nat) : Int) % 18446744073709551616 = ((a * b : Nat) : Int) := by omega
        obtain ⟨p, hp'⟩ : ∃ p, p = a * b := ⟨_, rfl⟩
        rw [← hp'] at e1 e2 hp hstep
        have e3 : (y : Int) + (p : Int) = ((y + p : Nat) : Int) := rfl
        have e4 : ((y + p : Nat) : Int) % 18446744073709551616 = ((y + p : Nat) : Int) := by omega
        have c1 : wr1 G ⟨bo, i + k, none⟩ (.int .u64 (y + p : Nat)) = _ := cells_set (f := uv) hx (i := i + k) (by omega) (y + p) rfl
        simp (config := {maxSteps := 2000000, implicitDefEqProofs := false}) only [go_sem, ↓reduceIte, Nat.reduceEqDiff, Nat.reduceAdd, Nat.reduceMul, Nat.reduceLeDiff, Nat.reduceLT, Nat.reduceSub, IntWalk.iteOmega, IntWalk.toNatUp, reduceCtorEq, false_and, and_false, false_or, or_false, true_or, or_true, not_true_eq_false, not_false_eq_true, Bool.not_true, Bool.not_false, Bool.and_true, Bool.true_and, Bool.and_false, Bool.false_and, Bool.not_eq_true, beq_self_eq_true, Nat.add_zero, Int.reduceLE, Int.reduceLT, Int.reduceToNat, Int.reduceNeg, f3, f4, f5, f6, f7, f10, f11, f15, f16, hlk', Int.toNat_natCast, n2, eik, h5', g1, e1, e2, e3, e4, c1]
        refine ⟨⟨f3, f4, f5, f10, f11, f6, f7, f15, k + 1, hlk, rfl, ?_⟩, ?_⟩
        · rw [hG, set_set, hstep]; rfl
        · simp only [vi, updo_some, ↓reduceIte, f16]; omega
      · have h5' : ¬ ((i + k : Nat) : Int) < 5 := by omega
        have g1 := cells_get hx (i := i + k - 5) (by omega)
        have y1 := wR.getD (by omega) (i + k - 5)
        unfold uv at g1
        have hs : tstep a b r i k = r.set (i + k - 5) (r.getD (i + k - 5) 0 + 5 * a * b) := by unfold tstep; rw [if_neg h5]
        rw [hs] at hstep
        obtain ⟨y, hy⟩ : ∃ y, y = r.getD (i + k - 5) 0 := ⟨_, rfl⟩
        rw [← hy] at g1 y1 hstep
        have e0 : (5 : Int) * (a : Int) = ((5 * a : Nat) : Int) := rfl
        have e0' : ((5 * a : Nat) : Int) % 18446744073709551616 = ((5 * a : Nat) : Int) := by omega
        have e1 : ((5 * a : Nat) : Int) * (b : Int) = ((5 * a * b : Nat) : Int) := (Int.natCast_mul (5 * a) b).symm
        have e2 : ((5 * a * b : Nat) : Int) % 18446744073709551616 = ((5 * a * b : Nat) : Int) := by omega
        obtain ⟨p, hp'⟩ : ∃ p, p = 5 * a * b := ⟨_, rfl⟩
        rw [← hp'] at e1 e2 hp5 hstep
        have e3 : (y : Int) + (p : Int) = ((y + p : Nat) : Int) := rfl
        have e4 : ((y + p : Nat) : Int) % 18446744073709551616 = ((y + p : Nat) : Int) := by omega
        have e5 : ((i + k : Nat) : Int) - 5 = ((i + k - 5 : Nat) : Int) := by omega
        have e6 : ((i + k - 5 : Nat) : Int) < 5 := by omega
        have c1 : wr1 G ⟨bo, i + k - 5, none⟩ (.int .u64 (y + p : Nat)) = _ := cells_set (f := uv) hx (i := i + k - 5) (by omega) (y + p) rfl
        simp (config := {maxSteps := 2000000, implicitDefEqProofs := false}) only [go_sem, ↓reduceIte, Nat.reduceEqDiff, Nat.reduceAdd, Nat.reduceMul, Nat.reduceLeDiff, Nat.reduceLT, Nat.reduceSub, IntWalk.iteOmega, IntWalk.toNatUp, reduceCtorEq, false_and, and_false, false_or, or_false, true_or, or_true, not_true_eq_false, not_false_eq_true, Bool.not_true, Bool.not_false, Bool.and_true, Bool.true_and, Bool.and_false, Bool.false_and, Bool.not_eq_true, beq_self_eq_true, Nat.add_zero, Int.reduceLE, Int.reduceLT, Int.reduceToNat, Int.reduceNeg, f3, f4, f5, f6, f7, f10, f11, f15, f16, hlk', Int.toNat_natCast, n2, eik, h5', g1, e0, e0', e1, e2, e3, e4, e5, e6, c1]
        refine ⟨⟨f3, f4, f5, f10, f11, f6, f7, f15, k + 1, hlk, rfl, ?_⟩, ?_⟩
        · rw [hG, set_set, hstep]; rfl
        · simp only [vi, updo_some, ↓reduceIte, f16]; omega
    · have hge : ¬ (k : Int) < 5 := by omega
      obtain rfl : k = 5 := by omega
      have c5 : ((5 : Nat) : Int) = 5 := rfl
      rw [c5] at f16 hge
      simp (config := {maxSteps := 2000000, implicitDefEqProofs := false}) only [go_sem, ↓reduceIte, Nat.reduceEqDiff, Nat.reduceAdd, Nat.reduceMul, Nat.reduceLeDiff, Nat.reduceLT, Nat.reduceSub, IntWalk.iteOmega, IntWalk.toNatUp, reduceCtorEq, false_and, and_false, false_or, or_false, true_or, or_true, not_true_eq_false, not_false_eq_true, Bool.not_true, Bool.not_false, Bool.and_true, Bool.true_and, Bool.and_false, Bool.false_and, Bool.not_eq_true, beq_self_eq_true, Nat.add_zero, Int.reduceLE, Int.reduceLT, Int.reduceToNat, Int.reduceNeg, f3, f4, f5, f10, f11, f16, hge]
      refine ⟨⟨f3, f4, f5, f10, i + 1, hlt, rfl, ?_⟩, ?_⟩
      · rw [hrow]
      · simp only [vi, updo_some, ↓reduceIte, f11]; omega
  · have hge : ¬ (i : Int) < 5 := by omega
    obtain rfl : i = 5 := by omega
    have c5 : ((5 : Nat) : Int) = 5 := rfl
    rw [c5] at f11 hge
    have hx : (H.setIfInBounds bo (limC (tmat xs bs 5)))[bo]? = some (limC (tmat xs bs 5)) := cells_new H3
    have hx2 : (H.setIfInBounds bo (limC (tmat xs bs 5)))[br]? = some (limC [0, 0, 0, 0, 0]) := by rw [Array.getElem?_setIfInBounds, if_neg (by omega)]; exact H2
    have HB2 : Bel h.size h (H.setIfInBounds bo (limC (tmat xs bs 5))) := HB.addSet (by omega) _
    obtain ⟨w1, w2, w3⟩ := times_law ha hb wa wb
    obtain ⟨o, ho⟩ : ∃ o, o = tmat xs bs 5 := ⟨_, rfl⟩
    rw [← ho] at hx hx2 HB2 w1 w2 ⊢
    generalize H.setIfInBounds bo (limC o) = G at *
    simp (config := {maxSteps := 2000000, implicitDefEqProofs := false}) only [go_sem, ↓reduceIte, Nat.reduceEqDiff, Nat.reduceAdd, Nat.reduceMul, Nat.reduceLeDiff, Nat.reduceLT, Nat.reduceSub, IntWalk.iteOmega, IntWalk.toNatUp, reduceCtorEq, false_and, and_false, false_or, or_false, true_or, or_true, not_true_eq_false, not_false_eq_true, Bool.not_true, Bool.not_false, Bool.and_true, Bool.true_and, Bool.and_false, Bool.false_and, Bool.not_eq_true, beq_self_eq_true, Nat.add_zero, Int.reduceLE, Int.reduceLT, Int.reduceToNat, Int.reduceNeg, f3, f4, f5, f10, f11, hge]
    refine (carry_ok T G bo o w2 w1 hx).use ?_
    rintro _ _ rfl
    obtain ⟨m1, m2, m3⟩ := carry_law w2 w1
    have hx3 : (G.setIfInBounds bo (limC (carryL o)))[bo]? = some (limC (carryL o)) := cells_new hx
    have hx4 : (G.setIfInBounds bo (limC (carryL o)))[br]? = some (limC [0, 0, 0, 0, 0]) := by rw [Array.getElem?_setIfInBounds, if_neg (by omega)]; exact hx2
    have HB3 : Bel h.size h (G.setIfInBounds bo (limC (carryL o))) := HB2.addSet (by omega) _
    generalize G.setIfInBounds bo (limC (carryL o)) = G2 at *
    have r3 := rd_lim m1 hx3
    have lc : ((carryL o).map uv).length = 5 := by simpa using m1
    have w4 := wr_get (h := G2) (b := br) (l := ([0, 0, 0, 0, 0].map uv)) (by unfold limC at hx4; rw [List.append_nil] at hx4; exact hx4) 0 ((carryL o).map uv)
    have ho4 : ((carryL o).map uv).all oneC = true := by simp [uv, oneC]
    rw [if_pos ⟨by simp [lc], ho4⟩, lput_full (by simp [lc])] at w4
    have tc : ((carryL o).map uv).take 5 = (carryL o).map uv := List.take_of_length_le (by omega)
    have hlr := lt_of_get hx4
    simp (config := {maxSteps := 2000000, implicitDefEqProofs := false}) only [go_sem, ↓reduceIte, Nat.reduceEqDiff, Nat.reduceAdd, Nat.reduceMul, Nat.reduceLeDiff, Nat.reduceLT, Nat.reduceSub, IntWalk.iteOmega, IntWalk.toNatUp, reduceCtorEq, false_and, and_false, false_or, or_false, true_or, or_true, not_true_eq_false, not_false_eq_true, Bool.not_true, Bool.not_false, Bool.and_true, Bool.true_and, Bool.and_false, Bool.false_and, Bool.not_eq_true, beq_self_eq_true, Nat.add_zero, Int.reduceLE, Int.reduceLT, Int.reduceToNat, Int.reduceNeg, f3, f4, f5, r3, w4, lc, tc, hlr]
    exact HB3.addSet (by omega) _
end Go.Proofs.Ytjgbajgmndkfjaa
