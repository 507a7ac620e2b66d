/- A number in limbs, made whole; no condition but those in the statements. -/
import Derived.Test.YtjgbajgmndkfjaaLimt
namespace Go.Proofs.Ytjgbajgmndkfjaa
open Go Go.V
set_option linter.unusedSimpArgs false
set_option linter.unusedVariables false
set_option maxRecDepth 100000
set_option maxHeartbeats 1000000 in
theorem limWhole_ok (T : World) (h : Hp) (xs : List Nat) (ha : xs.length = 5) (wa : LtAll 268435456 xs) :
    CallsH Try.prog T 143 #[.agg (xs.map uv).toArray] h fun v' h' => v' = .agg ((wholeL (carryL xs)).map uv).toArray ∧ Bel h.size h h' := by
  have la : (xs.map uv).length = 5 := by simpa using ha
  refine CallsH.of_code' (args := [_]) Try.func143 rfl rfl rfl rfl ?_
  simp (config := {maxSteps := 2000000, implicitDefEqProofs := false}) only [go_sem, ↓reduceIte, Nat.reduceEqDiff, Nat.reduceAdd, Nat.reduceMul, Nat.reduceLeDiff, Nat.reduceLT, Nat.reduceSub, IntWalk.iteOmega, IntWalk.toNatUp, reduceCtorEq, false_and, and_false, false_or, or_false, true_or, or_true, not_true_eq_false, not_false_eq_true, Bool.not_true, Bool.not_false, Bool.and_true, Bool.true_and, Bool.and_false, Bool.false_and, Bool.not_eq_true, beq_self_eq_true, Nat.add_zero, Int.reduceLE, Int.reduceLT, Int.reduceToNat, Int.reduceNeg, la]
  obtain ⟨H, hH⟩ : ∃ H : Hp, H = ((h.push (.cells (xs.map uv).toArray 165)).push (.cells #[.int .u64 0, .int .u64 0, .int .u64 0, .int .u64 0, .int .u64 0] 165)) := ⟨_, rfl⟩
  have HB : Bel h.size h H := by rw [hH]; exact ((Bel.push (Nat.le_refl _) _).addP (by simp) _)
  have Hs : H.size = h.size + 1 + 1 := by rw [hH]; simp
  have H0 : H[h.size]? = some (limC xs) := by
    rw [hH, get_push_ne (by simp), get_push_last]; unfold limC; rw [List.append_nil]
  have H1 : H[h.size + 1]? = some (limC [0, 0, 0, 0, 0]) := by
    have := get_push_last (h := (h.push (.cells (xs.map uv).toArray 165))) (o := .cells #[.int .u64 0, .int .u64 0, .int .u64 0, .int .u64 0, .int .u64 0] 165)
    rw [Array.size_push] at this
    rw [hH, this]; rfl
  rw [← hH]
  clear hH
  refine (carry_ok T H h.size xs ha (wa.mono (by decide)) H0).use ?_
  rintro _ _ rfl
  obtain ⟨m1, m2, m3, m4⟩ := carry_law ha (wa.mono (by decide))
  have hx0 : (H.setIfInBounds h.size (limC (carryL xs)))[h.size]? = some (limC (carryL xs)) := cells_new H0
  have hx1 : (H.setIfInBounds h.size (limC (carryL xs)))[h.size + 1]? = some (limC [0, 0, 0, 0, 0]) := by rw [Array.getElem?_setIfInBounds, if_neg (by omega)]; exact H1
  have HB2 : Bel h.size h (H.setIfInBounds h.size (limC (carryL xs))) := HB.addSet (Nat.le_refl _) _
  have Hs2 : (H.setIfInBounds h.size (limC (carryL xs))).size = h.size + 1 + 1 := by rw [Array.size_setIfInBounds]; exact Hs
  obtain ⟨m, hm⟩ : ∃ m, m = carryL xs := ⟨_, rfl⟩
  rw [← hm] at hx0 hx1 HB2 Hs2 m1 m2 m3 m4 ⊢
  generalize H.setIfInBounds h.size (limC m) = G at *
  have r0 := rd_lim m1 hx0
  have lm : (m.map uv).length = 5 := by simpa using m1
  have hom : (m.map uv).all oneC = true := by simp [uv, oneC]
  have lp : lput [Value.int .u64 0, .int .u64 0, .int .u64 0, .int .u64 0, .int .u64 0] 0 (m.map uv) = m.map uv := lput_full lm
  have n0 := nth_uv (l := m) (i := 0) (by omega)
  have y0 := m2.getD (by omega) 0
  have hw0 : ywh m 0 = m.set 0 (m.getD 0 0 + 5) := rfl
  obtain ⟨y, hy⟩ : ∃ y, y = m.getD 0 0 := ⟨_, rfl⟩
  rw [← hy] at n0 y0 hw0
  have e1 : (y : Int) + 5 = ((y + 5 : Nat) : Int) := rfl
  have e2 : ((y + 5 : Nat) : Int) % 18446744073709551616 = ((y + 5 : Nat) : Int) := by omega
  simp (config := {maxSteps := 2000000, implicitDefEqProofs := false}) only [go_sem, ↓reduceIte, Nat.reduceEqDiff, Nat.reduceAdd, Nat.reduceMul, Nat.reduceLeDiff, Nat.reduceLT, Nat.reduceSub, IntWalk.iteOmega, IntWalk.toNatUp, reduceCtorEq, false_and, and_false, false_or, or_false, true_or, or_true, not_true_eq_false, not_false_eq_true, Bool.not_true, Bool.not_false, Bool.and_true, Bool.true_and, Bool.and_false, Bool.false_and, Bool.not_eq_true, beq_self_eq_true, Nat.add_zero, Int.reduceLE, Int.reduceLT, Int.reduceToNat, Int.reduceNeg, r0, lm, hom, Hs2, lp, n0, e1, e2]
  have hms : (m.map uv).set 0 (.int .u64 (y + 5 : Nat)) = (m.set 0 (y + 5)).map uv := by rw [List.map_set]; rfl
  rw [hms, ← hw0]
  obtain ⟨J, hJ⟩ : ∃ J, J = G.push (.cells ((ywh m 0).map uv).toArray 165) := ⟨_, rfl⟩
  have J3 : J[h.size + 1 + 1]? = some (limC (ywh m 0)) := by
    rw [hJ, ← Hs2, get_push_last]; unfold limC; rw [List.append_nil]
  have J0 : J[h.size]? = some (limC m) := by rw [hJ, get_push_ne (by omega)]; exact hx0
  have J1 : J[h.size + 1]? = some (limC [0, 0, 0, 0, 0]) := by rw [hJ, get_push_ne (by omega)]; exact hx1
  have JB : Bel h.size h J := by rw [hJ]; exact HB2.addP (by omega) _
  rw [← hJ]
  clear hJ
  obtain ⟨b3, hb3⟩ : ∃ b, b = h.size + 1 + 1 := ⟨_, rfl⟩
  obtain ⟨b2, hb2⟩ : ∃ b, b = h.size + 1 := ⟨_, rfl⟩
  rw [← hb3] at J3 ⊢
  rw [← hb2] at J1 ⊢
  refine VS.loop' (fun F g => F 1 = .pointer (some ⟨h.size, 0, none⟩) ∧ F 2 = .pointer (some ⟨b2, 0, none⟩) ∧ F 3 = .pointer (some ⟨b3, 0, none⟩) ∧ ∃ i : Nat, i ≤ 4 ∧ F 11 = .int .i64 i ∧ g = J.setIfInBounds b3 (limC (ywh m i)))
    (fun F _ => 4 - (vi (F 11)).toNat) rfl ⟨rfl, rfl, rfl, 0, by omega, rfl, (set_same J3).symm⟩ ?_
  rintro F g ⟨f1, f2, f3, i, hi, f11, rfl⟩
  have hx : (J.setIfInBounds b3 (limC (ywh m i)))[b3]? = some (limC (ywh m i)) := cells_new J3
  have wY := ywh_lt m2 i (by omega)
  have lY : (ywh m i).length = 5 := by rw [ywh_length, m1]
  by_cases hlt : i < 4
  · have hlt' : (i : Int) < 4 := by omega
    have hnext : ywh m (i + 1) = ((ywh m i).set (i + 1) ((ywh m i).getD (i + 1) 0 + (ywh m i).getD i 0 / 67108864)).set i ((ywh m i).getD i 0 % 67108864) := rfl
    obtain ⟨r, hr⟩ : ∃ r, r = ywh m i := ⟨_, rfl⟩
    rw [← hr] at hx wY lY hnext ⊢
    obtain ⟨G1, hG1⟩ : ∃ G1, G1 = J.setIfInBounds b3 (limC r) := ⟨_, rfl⟩
    rw [← hG1] at hx ⊢
    have g1 := cells_get hx (i := i + 1) (by omega)
    have g0 := cells_get hx (i := i) (by omega)
    have q1 := wY.getD (by omega) (i + 1)
    have q0 := wY.getD (by omega) i
    unfold uv at g0 g1
    obtain ⟨a, hax⟩ : ∃ a, a = r.getD i 0 := ⟨_, rfl⟩
    obtain ⟨b, hbx⟩ : ∃ b, b = r.getD (i + 1) 0 := ⟨_, rfl⟩
    rw [← hax] at g0 q0 hnext
    rw [← hbx] at g1 q1 hnext
    have s1 := shr26 a
    have s2 := mask26 a (by omega)
    have t1 : (b : Int) + ((a / 67108864 : Nat) : Int) = ((b + a / 67108864 : Nat) : Int) := rfl
    have t2 : ((b + a / 67108864 : Nat) : Int) % 18446744073709551616 = ((b + a / 67108864 : Nat) : Int) := by omega
    have ei : (i : Int) + 1 = ((i + 1 : Nat) : Int) := rfl
    have hi5 : ((i + 1 : Nat) : Int) < 5 := by omega
    have hi5' : (i : Int) < 5 := by omega
    have c1 : wr1 G1 ⟨b3, i + 1, none⟩ (.int .u64 (b + a / 67108864 : Nat)) = _ := cells_set (f := uv) hx (i := i + 1) (by omega) (b + a / 67108864) rfl
    have hy1 := cells_new (o := .cells ((r.set (i + 1) (b + a / 67108864)).map uv ++ []).toArray 165) hx
    have l1 : (r.set (i + 1) (b + a / 67108864)).length = 5 := by rw [List.length_set, lY]
    have v1 : (r.set (i + 1) (b + a / 67108864)).getD i 0 = a := by rw [getD_set_ne' (by omega), ← hax]
    obtain ⟨r1, hr1⟩ : ∃ r1, r1 = r.set (i + 1) (b + a / 67108864) := ⟨_, rfl⟩
    rw [← hr1] at c1 hy1 l1 v1 hnext
    obtain ⟨G2, hG2⟩ : ∃ G2, G2 = G1.setIfInBounds b3 (.cells (r1.map uv ++ []).toArray 165) := ⟨_, rfl⟩
    rw [← hG2] at c1 hy1
    have g2 := cells_get hy1 (i := i) (by omega)
    unfold uv at g2
    rw [v1] at g2
    have c2 : wr1 G2 ⟨b3, i, none⟩ (.int .u64 (a % 67108864 : Nat)) = _ := cells_set (f := uv) hy1 (i := i) (by omega) (a % 67108864) rfl
    simp (config := {maxSteps := 2000000, implicitDefEqProofs := false}) only [go_sem, ↓reduceIte, Nat.reduceEqDiff, Nat.reduceAdd, Nat.reduceMul, Nat.reduceLeDiff, Nat.reduceLT, Nat.reduceSub, IntWalk.iteOmega, IntWalk.toNatUp, reduceCtorEq, false_and, and_false, false_or, or_false, true_or, or_true, not_true_eq_false, not_false_eq_true, Bool.not_true, Bool.not_false, Bool.and_true, Bool.true_and, Bool.and_false, Bool.false_and, Bool.not_eq_true, beq_self_eq_true, Nat.add_zero, Int.reduceLE, Int.reduceLT, Int.reduceToNat, Int.reduceNeg, f1, f2, f3, f11, hlt']
    refine VS.w (b3 + 1) [10] (.q 0 (.q 1 (.q 2 (.q 3 (.q 4 (.q 5 (.q 6 (.q 7 (.q 8 (.q 9 (.w 10 .nil))))))))))) mixed (by kernel_rfl) ?_
    simp (config := {maxSteps := 2000000, implicitDefEqProofs := false}) only [go_sem, ↓reduceIte, Nat.reduceEqDiff, Nat.reduceAdd, Nat.reduceMul, Nat.reduceLeDiff, Nat.reduceLT, Nat.reduceSub, IntWalk.iteOmega, IntWalk.toNatUp, reduceCtorEq, false_and, and_false, false_or, or_false, true_or, or_true, not_true_eq_false, not_false_eq_true, Bool.not_true, Bool.not_false, Bool.and_true, Bool.true_and, Bool.and_false, Bool.false_and, Bool.not_eq_true, beq_self_eq_true, Nat.add_zero, Int.reduceLE, Int.reduceLT, Int.reduceToNat, Int.reduceNeg, f1, f2, f3, f11, ei, hi5, hi5', Int.toNat_natCast, Nat.zero_add, g0, g1, s1, t1, t2, c1, g2, s2, c2]
    refine ⟨⟨f1, f2, f3, i + 1, hlt, rfl, ?_⟩, ?_⟩
    · rw [hG2, set_set, hG1, set_set, hnext]; rfl
    · simp only [vi, updo_some, ↓reduceIte, f11]; omega
  · have hge : ¬ (i : Int) < 4 := by omega
    obtain rfl : i = 4 := by omega
    have c4 : ((4 : Nat) : Int) = 4 := rfl
    rw [c4] at f11 hge
    have hW : wholeL m = if (ywh m 4).getD 4 0 / 67108864 = 0 then m else (ywh m 4).set 4 ((ywh m 4).getD 4 0 % 67108864) := rfl
    have hy0 : (J.setIfInBounds b3 (limC (ywh m 4)))[h.size]? = some (limC m) := by rw [Array.getElem?_setIfInBounds, if_neg (by omega)]; exact J0
    have hy1 : (J.setIfInBounds b3 (limC (ywh m 4)))[b2]? = some (limC [0, 0, 0, 0, 0]) := by rw [Array.getElem?_setIfInBounds, if_neg (by omega)]; exact J1
    have HB3 : Bel h.size h (J.setIfInBounds b3 (limC (ywh m 4))) := JB.addSet (by omega) _
    obtain ⟨r, hr⟩ : ∃ r, r = ywh m 4 := ⟨_, rfl⟩
    rw [← hr] at hx wY lY hy0 hy1 HB3 hW ⊢
    generalize J.setIfInBounds b3 (limC r) = G1 at *
    have g4 := cells_get hx (i := 4) (by omega)
    have q4 := wY.getD (by omega) 4
    unfold uv at g4
    obtain ⟨a, hax⟩ : ∃ a, a = r.getD 4 0 := ⟨_, rfl⟩
    rw [← hax] at g4 q4 hW
    have s1 := shr26 a
    have s2 := mask26 a (by omega)
    have w4 := fun (k : List Nat) (hk : k.length = 5) => wr_get (h := G1) (b := b2) (l := ([0, 0, 0, 0, 0].map uv)) (by unfold limC at hy1; rw [List.append_nil] at hy1; exact hy1) 0 (k.map uv)
    have h2s := lt_of_get hy1
    by_cases h0 : a / 67108864 = 0
    · have h0' : ((a / 67108864 : Nat) : Int) = 0 := by omega
      rw [if_pos h0] at hW
      have w5 := w4 m m1
      rw [if_pos ⟨by simp [lm], hom⟩, lput_full (by simp [lm])] at w5
      have r1 := rd_lim m1 hy0
      have tm : (m.map uv).take 5 = m.map uv := List.take_of_length_le (by omega)
      simp (config := {maxSteps := 2000000, implicitDefEqProofs := false}) only [go_sem, ↓reduceIte, Nat.reduceEqDiff, Nat.reduceAdd, Nat.reduceMul, Nat.reduceLeDiff, Nat.reduceLT, Nat.reduceSub, IntWalk.iteOmega, IntWalk.toNatUp, reduceCtorEq, false_and, and_false, false_or, or_false, true_or, or_true, not_true_eq_false, not_false_eq_true, Bool.not_true, Bool.not_false, Bool.and_true, Bool.true_and, Bool.and_false, Bool.false_and, Bool.not_eq_true, beq_self_eq_true, Nat.add_zero, Int.reduceLE, Int.reduceLT, Int.reduceToNat, Int.reduceNeg, f1, f2, f3, f11, hge, g4, s1, h0', r1, w5, lm, tm, h2s]
      exact ⟨by rw [hW], HB3.addSet (by omega) _⟩
    · have h0' : ¬ ((a / 67108864 : Nat) : Int) = 0 := by omega
      rw [if_neg h0] at hW
      have c1 : wr1 G1 ⟨b3, 4, none⟩ (.int .u64 (a % 67108864 : Nat)) = _ := cells_set (f := uv) hx (i := 4) (by omega) (a % 67108864) rfl
      have hz := cells_new (o := .cells ((r.set 4 (a % 67108864)).map uv ++ []).toArray 165) hx
      have l1 : (r.set 4 (a % 67108864)).length = 5 := by rw [List.length_set, lY]
      have HB4 : Bel h.size h (G1.setIfInBounds b3 (.cells ((r.set 4 (a % 67108864)).map uv ++ []).toArray 165)) := HB3.addSet (by omega) _
      have hz2 : (G1.setIfInBounds b3 (.cells ((r.set 4 (a % 67108864)).map uv ++ []).toArray 165))[b2]? = some (limC [0, 0, 0, 0, 0]) := by rw [Array.getElem?_setIfInBounds, if_neg (by omega)]; exact hy1
      rw [hW]
      obtain ⟨r1, hr1⟩ : ∃ r1, r1 = r.set 4 (a % 67108864) := ⟨_, rfl⟩
      rw [← hr1] at c1 hz l1 HB4 hz2 ⊢
      generalize G1.setIfInBounds b3 (.cells (r1.map uv ++ []).toArray 165) = G2 at *
      have r4 := rd_lim l1 hz
      have lr : (r1.map uv).length = 5 := by simpa using l1
      have hor : (r1.map uv).all oneC = true := by simp [uv, oneC]
      have w5 := wr_get (h := G2) (b := b2) (l := ([0, 0, 0, 0, 0].map uv)) (by unfold limC at hz2; rw [List.append_nil] at hz2; exact hz2) 0 (r1.map uv)
      rw [if_pos ⟨by simp [lr], hor⟩, lput_full (by simp [lr])] at w5
      have tm : (r1.map uv).take 5 = r1.map uv := List.take_of_length_le (by omega)
      have h2s' := lt_of_get hz2
      simp (config := {maxSteps := 2000000, implicitDefEqProofs := false}) only [go_sem, ↓reduceIte, Nat.reduceEqDiff, Nat.reduceAdd, Nat.reduceMul, Nat.reduceLeDiff, Nat.reduceLT, Nat.reduceSub, IntWalk.iteOmega, IntWalk.toNatUp, reduceCtorEq, false_and, and_false, false_or, or_false, true_or, or_true, not_true_eq_false, not_false_eq_true, Bool.not_true, Bool.not_false, Bool.and_true, Bool.true_and, Bool.and_false, Bool.false_and, Bool.not_eq_true, beq_self_eq_true, Nat.add_zero, Int.reduceLE, Int.reduceLT, Int.reduceToNat, Int.reduceNeg, f1, f2, f3, f11, hge, g4, s1, s2, h0', Nat.zero_add, c1, r4, w5, lr, tm, h2s']
      exact HB4.addSet (by omega) _
end Go.Proofs.Ytjgbajgmndkfjaa
