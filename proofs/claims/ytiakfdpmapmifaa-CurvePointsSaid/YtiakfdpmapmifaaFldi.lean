/- The program's one divided by a number: the walk; no condition but those in the statements. -/
import Derived.Test.YtiakfdpmapmifaaFldp
namespace Go.Proofs.Ytiakfdpmapmifaa
open Go Go.V
set_option linter.unusedSimpArgs false
set_option linter.unusedVariables false
set_option maxRecDepth 100000
def fpow (xs : List Int) : Nat → List Int
  | 0 => xs
  | n + 1 => if n = 251 ∨ n = 249 then ftimes (fpow xs n) (fpow xs n) else ftimes (ftimes (fpow xs n) (fpow xs n)) xs
theorem Near.inK {b : Int} {l : List Int} (w : Near b l) (hb : 0 ≤ b) : InK (65536 + b) l := inK_of fun j hj => by
  have h0 := w.2.1
  by_cases e : j = 0
  · subst e; omega
  · have := w.2.2 j (by omega) (by rw [← w.1]; exact hj)
    omega
theorem ftimes_in {xs ys : List Int} (wa : InK 524288 xs) (wb : InK 524288 ys) : InK 65574 (ftimes xs ys) := ((ftimes_near wa wb).inK (by omega))
theorem ftimes_length (xs ys : List Int) : (ftimes xs ys).length = 16 := by unfold ftimes; rw [fcN_length, fcN_length, ffold_length]
theorem fpow_in {xs : List Int} (hl : xs.length = 16) (w : InK 524288 xs) : ∀ n, InK 524288 (fpow xs n) ∧ (fpow xs n).length = 16
  | 0 => ⟨w, hl⟩
  | n + 1 => by
    obtain ⟨a, b⟩ := fpow_in hl w n
    have c : InK 524288 (ftimes (fpow xs n) (fpow xs n)) := (ftimes_in a a).mono (by omega)
    rw [fpow]
    split
    · exact ⟨c, ftimes_length _ _⟩
    · exact ⟨(ftimes_in c w).mono (by omega), ftimes_length _ _⟩
theorem wr_fld {g : Hp} {b : Nat} {l s : List Int} (hb : g[b]? = some (fldC l)) (hl : l.length = 16) (hs : s.length = 16) : wr g ⟨b, 0, none⟩ (s.map sv) = some (g.setIfInBounds b (fldC s)) := by
  have w4 := wr_get (h := g) (b := b) (l := l.map sv) hb 0 (s.map sv)
  have ho4 : (s.map sv).all oneC = true := by simp [sv, oneC]
  rw [if_pos ⟨by simp [hl, hs], ho4⟩, lput_full (by simp [hl, hs])] at w4
  exact w4
set_option maxHeartbeats 1000000 in
theorem fldTurned_ok (T : World) (h : Hp) (xs : List Int) (ha : xs.length = 16) (wa : InK 524288 xs) :
    CallsH Try.prog T 43 #[.agg (xs.map sv).toArray] h fun v' h' => v' = .agg ((fpow xs 254).map sv).toArray ∧ Bel h.size h h' := by
  have la : (xs.map sv).length = 16 := by simpa using ha
  have ta : (xs.map sv).take 16 = xs.map sv := List.take_of_length_le (by omega)
  have hzl : (List.replicate 16 (0 : Int)).length = 16 := by simp
  refine CallsH.of_code2 (args := [_]) Try.func43 rfl rfl rfl rfl ?_
  have z16 : (#[Value.int .i64 0, .int .i64 0, .int .i64 0, .int .i64 0, .int .i64 0, .int .i64 0, .int .i64 0, .int .i64 0, .int .i64 0, .int .i64 0, .int .i64 0, .int .i64 0, .int .i64 0, .int .i64 0, .int .i64 0, .int .i64 0] : Array Value) = ((List.replicate 16 (0 : Int)).map sv).toArray := rfl
  obtain ⟨G, hG⟩ : ∃ G : Hp, G = (((h.push (fldC xs)).push (fldC (List.replicate 16 0))).push (fldC xs)) := ⟨_, rfl⟩
  have Gs : G.size = h.size + 1 + 1 + 1 := by rw [hG]; simp
  have G0 : G[h.size]? = some (fldC xs) := by
    have := get_push_last (h := h) (o := fldC xs)
    rw [hG, get_push_ne (by simp; omega), get_push_ne (by simp), this]
  have G1 : G[h.size + 1]? = some (fldC (List.replicate 16 0)) := by
    have := get_push_last (h := h.push (fldC xs)) (o := fldC (List.replicate 16 0))
    rw [Array.size_push] at this
    rw [hG, get_push_ne (by simp), this]
  have G2 : G[h.size + 1 + 1]? = some (fldC xs) := by
    have := get_push_last (h := (h.push (fldC xs)).push (fldC (List.replicate 16 0))) (o := fldC xs)
    rw [Array.size_push, Array.size_push] at this
    rw [hG, this]
  have GB : Bel h.size h G := by rw [hG]; exact ((Bel.push (Nat.le_refl _) _).addP (by simp) _).addP (by simp; omega) _
  have hzm : ((List.replicate 16 (0 : Int)).map sv).length = 16 := by simp
  have hal : (xs.map sv).all oneC = true := by simp [sv, oneC]
  have hlp : lput ((List.replicate 16 (0 : Int)).map sv) 0 (xs.map sv) = xs.map sv := lput_full (by rw [hzm, la])
  have hfold : ((h.push (.cells (xs.map sv).toArray 65)).push (.cells ((List.replicate 16 (0 : Int)).map sv).toArray 65)).push (.cells (xs.map sv).toArray 65) = G := by rw [hG]; rfl
  simp (config := {maxSteps := 2000000, implicitDefEqProofs := false}) only [go_sem, ↓reduceIte, Nat.reduceEqDiff, Nat.reduceAdd, Nat.reduceMul, Nat.reduceLeDiff, Nat.reduceLT, Nat.reduceSub, IntWalk.iteOmega, IntWalk.toNatUp, reduceCtorEq, false_and, and_false, false_or, or_false, true_or, or_true, not_true_eq_false, not_false_eq_true, Bool.not_true, Bool.not_false, Bool.and_true, Bool.true_and, Bool.and_false, Bool.false_and, Bool.not_eq_true, beq_self_eq_true, Nat.add_zero, Int.reduceLE, Int.reduceLT, Int.reduceToNat, Int.reduceNeg, la, ta, z16, hzm, hal, hlp, hfold]
  clear hG hfold z16 hlp
  obtain ⟨bc, hbc⟩ : ∃ b, b = h.size + 1 + 1 := ⟨_, rfl⟩
  obtain ⟨br, hbr⟩ : ∃ b, b = h.size + 1 := ⟨_, rfl⟩
  obtain ⟨ba, hba⟩ : ∃ b, b = h.size := ⟨_, rfl⟩
  rw [← hbc] at G2 ⊢
  rw [← hbr] at G1 ⊢
  rw [← hba] at G0 GB ⊢
  refine VS.loop' (fun F g => F 1 = .pointer (some ⟨ba, 0, none⟩) ∧ F 2 = .pointer (some ⟨br, 0, none⟩) ∧ F 3 = .pointer (some ⟨bc, 0, none⟩) ∧ (∃ n : Nat, n ≤ 254 ∧ F 4 = .int .i64 (253 - n) ∧ g[bc]? = some (fldC (fpow xs n))) ∧ g[ba]? = some (fldC xs) ∧ g[br]? = some (fldC (List.replicate 16 0)) ∧ Bel ba h g)
    (fun F _ => (vi (F 4) + 1).toNat) rfl ⟨rfl, rfl, rfl, ⟨0, by omega, rfl, G2⟩, G0, G1, GB⟩ ?_
  rintro F g ⟨f1, f2, f3, ⟨n, hn, f4, g2⟩, g0, g1, gB⟩
  obtain ⟨wp, lp⟩ := fpow_in ha wa n
  have rx := rd_fld ha g0
  have rp := rd_fld lp g2
  have hsz := lt_of_get g2
  by_cases hlt : n < 254
  · have hge : (253 - (n : Int) ≥ 0) = True := by simp; omega
    have hge' : 0 ≤ 253 - (n : Int) := by omega
    have hnext : fpow xs (n + 1) = if n = 251 ∨ n = 249 then ftimes (fpow xs n) (fpow xs n) else ftimes (ftimes (fpow xs n) (fpow xs n)) xs := rfl
    obtain ⟨s, hs⟩ : ∃ s, s = fpow xs n := ⟨_, rfl⟩
    rw [← hs] at g2 wp lp rp hnext
    clear hs
    have tp : (s.map sv).take 16 = s.map sv := List.take_of_length_le (by simp [lp])
    simp (config := {maxSteps := 2000000, implicitDefEqProofs := false}) only [go_sem, ↓reduceIte, Nat.reduceEqDiff, Nat.reduceAdd, Nat.reduceMul, Nat.reduceLeDiff, Nat.reduceLT, Nat.reduceSub, IntWalk.iteOmega, IntWalk.toNatUp, reduceCtorEq, false_and, and_false, false_or, or_false, true_or, or_true, not_true_eq_false, not_false_eq_true, Bool.not_true, Bool.not_false, Bool.and_true, Bool.true_and, Bool.and_false, Bool.false_and, Bool.not_eq_true, beq_self_eq_true, Nat.add_zero, Int.reduceLE, Int.reduceLT, Int.reduceToNat, Int.reduceNeg, f1, f2, f3, f4, hge, hge', rp, tp, lp]
    refine (fldTimes_ok T g s s lp lp wp wp).use ?_
    rintro _ g' ⟨rfl, b1⟩
    have k0 := b1.get (by have := lt_of_get g0; omega) g0
    have k1 := b1.get (by have := lt_of_get g1; omega) g1
    have k2 := b1.get hsz g2
    have kB := gB.trans (b1.mono (by have := gB.size; omega))
    have lt2 := ftimes_length s s
    have it2 := ftimes_in wp wp
    have w4 := wr_fld k2 lp lt2
    obtain ⟨s2, hs2⟩ : ∃ s2, s2 = ftimes s s := ⟨_, rfl⟩
    rw [← hs2] at hnext lt2 it2 w4
    try rw [← hs2]
    have lq2 : (s2.map sv).length = 16 := by simp [lt2]
    have hlr := lt_of_get k2
    have m0 : (g'.setIfInBounds bc (fldC s2))[ba]? = some (fldC xs) := by rw [Array.getElem?_setIfInBounds, if_neg (by omega)]; exact k0
    have m1 : (g'.setIfInBounds bc (fldC s2))[br]? = some (fldC (List.replicate 16 0)) := by rw [Array.getElem?_setIfInBounds, if_neg (by omega)]; exact k1
    have m2 := cells_new (o := fldC s2) k2
    have mB : Bel ba h (g'.setIfInBounds bc (fldC s2)) := kB.addSet (by omega) _
    have t2 : (s2.map sv).take 16 = s2.map sv := List.take_of_length_le (by omega)
    have rx2 := rd_fld ha m0
    have rp2 := rd_fld lt2 m2
    by_cases hb : n = 251 ∨ n = 249
    · rw [if_pos hb] at hnext
      by_cases hb1 : n = 251
      · have q1 : (253 - (n : Int) = 2) := by omega
        simp (config := {maxSteps := 2000000, implicitDefEqProofs := false}) only [go_sem, ↓reduceIte, Nat.reduceEqDiff, Nat.reduceAdd, Nat.reduceMul, Nat.reduceLeDiff, Nat.reduceLT, Nat.reduceSub, IntWalk.iteOmega, IntWalk.toNatUp, reduceCtorEq, false_and, and_false, false_or, or_false, true_or, or_true, not_true_eq_false, not_false_eq_true, Bool.not_true, Bool.not_false, Bool.and_true, Bool.true_and, Bool.and_false, Bool.false_and, Bool.not_eq_true, beq_self_eq_true, Nat.add_zero, Int.reduceLE, Int.reduceLT, Int.reduceToNat, Int.reduceNeg, f1, f2, f3, f4, hge, hge', lq2, w4, hlr, q1]
        refine ⟨⟨f1, f2, f3, ⟨n + 1, by omega, ?_, ?_⟩, m0, m1, mB⟩, ?_⟩
        · show Value.int .i64 _ = Value.int .i64 _
          exact congrArg (Value.int .i64) (by omega)
        · rw [hnext]; exact m2
        · simp only [vi, updo_some, ↓reduceIte, f4]; omega
      · have q1 : ¬ (253 - (n : Int) = 2) := by omega
        have q2 : (253 - (n : Int) = 4) := by omega
        simp (config := {maxSteps := 2000000, implicitDefEqProofs := false}) only [go_sem, ↓reduceIte, Nat.reduceEqDiff, Nat.reduceAdd, Nat.reduceMul, Nat.reduceLeDiff, Nat.reduceLT, Nat.reduceSub, IntWalk.iteOmega, IntWalk.toNatUp, reduceCtorEq, false_and, and_false, false_or, or_false, true_or, or_true, not_true_eq_false, not_false_eq_true, Bool.not_true, Bool.not_false, Bool.and_true, Bool.true_and, Bool.and_false, Bool.false_and, Bool.not_eq_true, beq_self_eq_true, Nat.add_zero, Int.reduceLE, Int.reduceLT, Int.reduceToNat, Int.reduceNeg, f1, f2, f3, f4, hge, hge', lq2, w4, hlr, q1, q2]
        refine ⟨⟨f1, f2, f3, ⟨n + 1, by omega, ?_, ?_⟩, m0, m1, mB⟩, ?_⟩
        · show Value.int .i64 _ = Value.int .i64 _
          exact congrArg (Value.int .i64) (by omega)
        · rw [hnext]; exact m2
        · simp only [vi, updo_some, ↓reduceIte, f4]; omega
    · rw [if_neg hb] at hnext
      have q1 : ¬ (253 - (n : Int) = 2) := by omega
      have q2 : ¬ (253 - (n : Int) = 4) := by omega
      obtain ⟨J, hJ⟩ : ∃ J, J = g'.setIfInBounds bc (fldC s2) := ⟨_, rfl⟩
      rw [← hJ] at w4 m0 m1 m2 mB rx2 rp2
      simp (config := {maxSteps := 2000000, implicitDefEqProofs := false}) only [go_sem, ↓reduceIte, Nat.reduceEqDiff, Nat.reduceAdd, Nat.reduceMul, Nat.reduceLeDiff, Nat.reduceLT, Nat.reduceSub, IntWalk.iteOmega, IntWalk.toNatUp, reduceCtorEq, false_and, and_false, false_or, or_false, true_or, or_true, not_true_eq_false, not_false_eq_true, Bool.not_true, Bool.not_false, Bool.and_true, Bool.true_and, Bool.and_false, Bool.false_and, Bool.not_eq_true, beq_self_eq_true, Nat.add_zero, Int.reduceLE, Int.reduceLT, Int.reduceToNat, Int.reduceNeg, f1, f2, f3, f4, hge, hge', lq2, w4, hlr, q1, q2, rx2, rp2, t2, la, ta]
      refine (fldTimes_ok T J s2 xs lt2 ha (it2.mono (by omega)) wa).use ?_
      rintro _ J' ⟨rfl, b2⟩
      have lt3 := ftimes_length s2 xs
      have y0 := b2.get (by have := lt_of_get m0; omega) m0
      have y1 := b2.get (by have := lt_of_get m1; omega) m1
      have y2 := b2.get (by have := lt_of_get m2; omega) m2
      have yB := mB.trans (b2.mono (by have := mB.size; omega))
      have w5 := wr_fld y2 lt2 lt3
      have hlr2 := lt_of_get y2
      obtain ⟨s3, hs3⟩ : ∃ s3, s3 = ftimes s2 xs := ⟨_, rfl⟩
      have hnext' : fpow xs (n + 1) = s3 := by rw [hnext, hs3, hs2]
      rw [← hs3] at lt3 w5
      rw [← hs3]
      have lq3 : (s3.map sv).length = 16 := by simp [lt3]
      have p0 : (J'.setIfInBounds bc (fldC s3))[ba]? = some (fldC xs) := by rw [Array.getElem?_setIfInBounds, if_neg (by omega)]; exact y0
      have p1 : (J'.setIfInBounds bc (fldC s3))[br]? = some (fldC (List.replicate 16 0)) := by rw [Array.getElem?_setIfInBounds, if_neg (by omega)]; exact y1
      have p2 := cells_new (o := fldC s3) y2
      have pB : Bel ba h (J'.setIfInBounds bc (fldC s3)) := yB.addSet (by omega) _
      simp (config := {maxSteps := 2000000, implicitDefEqProofs := false}) only [go_sem, ↓reduceIte, Nat.reduceEqDiff, Nat.reduceAdd, Nat.reduceMul, Nat.reduceLeDiff, Nat.reduceLT, Nat.reduceSub, IntWalk.iteOmega, IntWalk.toNatUp, reduceCtorEq, false_and, and_false, false_or, or_false, true_or, or_true, not_true_eq_false, not_false_eq_true, Bool.not_true, Bool.not_false, Bool.and_true, Bool.true_and, Bool.and_false, Bool.false_and, Bool.not_eq_true, beq_self_eq_true, Nat.add_zero, Int.reduceLE, Int.reduceLT, Int.reduceToNat, Int.reduceNeg, f1, f2, f3, f4, hge, hge', lq3, w5, hlr2]
      refine ⟨⟨f1, f2, f3, ⟨n + 1, by omega, ?_, ?_⟩, p0, p1, pB⟩, ?_⟩
      · show Value.int .i64 _ = Value.int .i64 _
        exact congrArg (Value.int .i64) (by omega)
      · rw [hnext']; exact p2
      · simp only [vi, updo_some, ↓reduceIte, f4]; omega
  · have hge : ¬ (0 : Int) ≤ 253 - (n : Int) := by omega
    obtain rfl : n = 254 := by omega
    have tp : ((fpow xs 254).map sv).take 16 = (fpow xs 254).map sv := List.take_of_length_le (by simp [lp])
    have lq : ((fpow xs 254).map sv).length = 16 := by simp [lp]
    have w4 := wr_fld g1 hzl lp
    have hlr := lt_of_get g1
    obtain ⟨s, hs⟩ : ∃ s, s = fpow xs 254 := ⟨_, rfl⟩
    rw [← hs] at g2 wp lp rp tp lq w4 ⊢
    clear hs
    have c254 : (253 : Int) - ((254 : Nat) : Int) = -1 := rfl
    rw [c254] at f4 hge
    simp (config := {maxSteps := 2000000, implicitDefEqProofs := false}) only [go_sem, ↓reduceIte, Nat.reduceEqDiff, Nat.reduceAdd, Nat.reduceMul, Nat.reduceLeDiff, Nat.reduceLT, Nat.reduceSub, IntWalk.iteOmega, IntWalk.toNatUp, reduceCtorEq, false_and, and_false, false_or, or_false, true_or, or_true, not_true_eq_false, not_false_eq_true, Bool.not_true, Bool.not_false, Bool.and_true, Bool.true_and, Bool.and_false, Bool.false_and, Bool.not_eq_true, beq_self_eq_true, Nat.add_zero, Int.reduceLE, Int.reduceLT, Int.reduceToNat, Int.reduceNeg, f1, f2, f3, f4, hge, rp, tp, lq, w4, hlr, fldC]
    exact gB.addSet (by omega) _
end Go.Proofs.Ytiakfdpmapmifaa
