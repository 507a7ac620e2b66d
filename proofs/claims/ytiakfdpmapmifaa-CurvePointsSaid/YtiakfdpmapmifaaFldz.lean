/- The program's number written: the walk; no condition but those in the statements. -/
import Derived.Test.YtiakfdpmapmifaaFlda
namespace Go.Proofs.Ytiakfdpmapmifaa
open Go Go.V
set_option linter.unusedSimpArgs false
set_option linter.unusedVariables false
set_option maxRecDepth 100000
def fon (l : List Int) : Nat → List Int
  | 0 => l
  | k + 1 => fonce (fon l k)
theorem fon_near {l : List Int} (w : Near 0 l) : ∀ k, Near 0 (fon l k)
  | 0 => w
  | k + 1 => fonce_near (fon_near w k)
def fby (l : List Int) : Nat → List Nat
  | 0 => []
  | n + 1 => fby l n ++ [(l.getD n 0 % 256).toNat, (l.getD n 0 / 256).toNat]
theorem fby_length (l : List Int) : ∀ n, (fby l n).length = 2 * n
  | 0 => rfl
  | n + 1 => by rw [fby, List.length_append, fby_length l n]; simp; omega
set_option maxHeartbeats 2000000 in
theorem fldWrite_ok (T : World) (h : Hp) (xs : List Int) (w : Near 38 xs) :
    CallsH Try.prog T 44 #[.agg (xs.map sv).toArray] h fun v' h' => OBs h.size 5 h' v' (fby (fon (fcN xs 16) 2) 16) ∧ Bel h.size h h' := by
  have ha := w.1
  have la : (xs.map sv).length = 16 := by simpa using ha
  have ta : (xs.map sv).take 16 = xs.map sv := List.take_of_length_le (by omega)
  have wK : InK (2 ^ 55) xs := (w.inK (by omega)).mono (by decide)
  have n3 := near_three w
  refine CallsH.of_code' (args := [_]) Try.func44 rfl rfl rfl rfl ?_
  have hH : (h.push (fldC xs))[h.size]? = some (fldC xs) := get_push_last
  have HB : Bel h.size h (h.push (fldC xs)) := Bel.push (Nat.le_refl _) _
  have hfold : h.push (.cells (xs.map sv).toArray 65) = h.push (fldC xs) := rfl
  simp (config := {maxSteps := 2000000, implicitDefEqProofs := false}) only [go_sem, ↓reduceIte, Nat.reduceEqDiff, Nat.reduceAdd, Nat.reduceMul, Nat.reduceLeDiff, Nat.reduceLT, Nat.reduceSub, IntWalk.iteOmega, IntWalk.toNatUp, reduceCtorEq, false_and, and_false, false_or, or_false, true_or, or_true, not_true_eq_false, not_false_eq_true, Bool.not_true, Bool.not_false, Bool.and_true, Bool.true_and, Bool.and_false, Bool.false_and, Bool.not_eq_true, beq_self_eq_true, Nat.add_zero, Int.reduceLE, Int.reduceLT, Int.reduceToNat, Int.reduceNeg, la, ta, hfold]
  generalize h.push (fldC xs) = H at *
  obtain ⟨ba, hba⟩ : ∃ b, b = h.size := ⟨_, rfl⟩
  rw [← hba] at hH HB ⊢
  refine (fldCarry_ok T H ba xs ha wK hH).use ?_
  rintro _ _ rfl
  have hH1 := cells_new (o := fldC (fcN xs 16)) hH
  have HB1 : Bel ba h (H.setIfInBounds ba (fldC (fcN xs 16))) := HB.addSet (by omega) _
  generalize H.setIfInBounds ba (fldC (fcN xs 16)) = H1 at *
  generalize fcN xs 16 = y at *
  have yK : InK (2 ^ 55) y := (n3.inK (by omega)).mono (by decide)
  have yS := near_still n3
  simp (config := {maxSteps := 2000000, implicitDefEqProofs := false}) only [go_sem, ↓reduceIte, Nat.reduceEqDiff, Nat.reduceAdd, Nat.reduceMul, Nat.reduceLeDiff, Nat.reduceLT, Nat.reduceSub, IntWalk.iteOmega, IntWalk.toNatUp, reduceCtorEq, false_and, and_false, false_or, or_false, true_or, or_true, not_true_eq_false, not_false_eq_true, Bool.not_true, Bool.not_false, Bool.and_true, Bool.true_and, Bool.and_false, Bool.false_and, Bool.not_eq_true, beq_self_eq_true, Nat.add_zero, Int.reduceLE, Int.reduceLT, Int.reduceToNat, Int.reduceNeg]
  refine (fldCarry_ok T H1 ba y n3.1 yK hH1).use ?_
  rintro _ _ rfl
  rw [yS, set_same hH1]
  simp (config := {maxSteps := 2000000, implicitDefEqProofs := false}) only [go_sem, ↓reduceIte, Nat.reduceEqDiff, Nat.reduceAdd, Nat.reduceMul, Nat.reduceLeDiff, Nat.reduceLT, Nat.reduceSub, IntWalk.iteOmega, IntWalk.toNatUp, reduceCtorEq, false_and, and_false, false_or, or_false, true_or, or_true, not_true_eq_false, not_false_eq_true, Bool.not_true, Bool.not_false, Bool.and_true, Bool.true_and, Bool.and_false, Bool.false_and, Bool.not_eq_true, beq_self_eq_true, Nat.add_zero, Int.reduceLE, Int.reduceLT, Int.reduceToNat, Int.reduceNeg]
  refine (fldCarry_ok T H1 ba y n3.1 yK hH1).use ?_
  rintro _ _ rfl
  rw [yS, set_same hH1]
  simp (config := {maxSteps := 2000000, implicitDefEqProofs := false}) only [go_sem, ↓reduceIte, Nat.reduceEqDiff, Nat.reduceAdd, Nat.reduceMul, Nat.reduceLeDiff, Nat.reduceLT, Nat.reduceSub, IntWalk.iteOmega, IntWalk.toNatUp, reduceCtorEq, false_and, and_false, false_or, or_false, true_or, or_true, not_true_eq_false, not_false_eq_true, Bool.not_true, Bool.not_false, Bool.and_true, Bool.true_and, Bool.and_false, Bool.false_and, Bool.not_eq_true, beq_self_eq_true, Nat.add_zero, Int.reduceLE, Int.reduceLT, Int.reduceToNat, Int.reduceNeg]
  refine VS.loop' (fun F g => F 1 = .pointer (some ⟨ba, 0, none⟩) ∧ ∃ k : Nat, k ≤ 2 ∧ F 12 = .int .i64 k ∧ g[ba]? = some (fldC (fon y k)) ∧ Bel ba h g)
    (fun F _ => 2 - (vi (F 12)).toNat) rfl ⟨rfl, 0, by omega, rfl, hH1, HB1⟩ ?_
  rintro F g ⟨f1, k, hk, f12, g0, gB⟩
  have nk := fon_near n3 k
  have rk := rd_fld nk.1 g0
  by_cases hlt : k < 2
  · have hlt' : (k : Int) < 2 := by omega
    have hnext : fon y (k + 1) = fonce (fon y k) := rfl
    obtain ⟨l, hl⟩ : ∃ l, l = fon y k := ⟨_, rfl⟩
    rw [← hl] at nk rk g0 hnext
    clear hl
    have ll : (l.map sv).length = 16 := by simp [nk.1]
    have tl : (l.map sv).take 16 = l.map sv := List.take_of_length_le (by omega)
    have hal : (l.map sv).all oneC = true := by simp [sv, oneC]
    have hzm : ((List.replicate 16 (0 : Int)).map sv).length = 16 := by simp
    have z16 : (#[Value.int .i64 0, .int .i64 0, .int .i64 0, .int .i64 0, .int .i64 0, .int .i64 0, .int .i64 0, .int .i64 0, .int .i64 0, .int .i64 0, .int .i64 0, .int .i64 0, .int .i64 0, .int .i64 0, .int .i64 0, .int .i64 0] : Array Value) = ((List.replicate 16 (0 : Int)).map sv).toArray := rfl
    have hlp : lput ((List.replicate 16 (0 : Int)).map sv) 0 (l.map sv) = l.map sv := lput_full (by rw [hzm, ll])
    have n0 := nth_sv (l := l) (i := 0) (by rw [nk.1]; omega)
    have c0 := nk.cell (i := 0) (by omega)
    have e0 : (l.map sv).set 0 (.int .i64 (l.getD 0 0 - 65517)) = (fst l 1).map sv := by rw [← fst_first nk.1, List.map_set]; rfl
    obtain ⟨x, hx⟩ : ∃ x, x = l.getD 0 0 := ⟨_, rfl⟩
    rw [← hx] at n0 c0 e0
    obtain ⟨J, hJ⟩ : ∃ J, J = g.push (fldC (fst l 1)) := ⟨_, rfl⟩
    have hm : J[g.size]? = some (fldC (fst l 1)) := by rw [hJ]; exact get_push_last
    have hm0 : J[ba]? = some (fldC l) := by rw [hJ, get_push_ne (by have := lt_of_get g0; omega)]; exact g0
    have hmB : Bel ba h J := by rw [hJ]; exact gB.addP (by have := gB.size; omega) _
    have hfold2 : g.push (.cells ((fst l 1).map sv).toArray 65) = J := by rw [hJ]; rfl
    have hbg := lt_of_get g0
    simp (config := {maxSteps := 2000000, implicitDefEqProofs := false}) only [go_sem, ↓reduceIte, Nat.reduceEqDiff, Nat.reduceAdd, Nat.reduceMul, Nat.reduceLeDiff, Nat.reduceLT, Nat.reduceSub, IntWalk.iteOmega, IntWalk.toNatUp, reduceCtorEq, false_and, and_false, false_or, or_false, true_or, or_true, not_true_eq_false, not_false_eq_true, Bool.not_true, Bool.not_false, Bool.and_true, Bool.true_and, Bool.and_false, Bool.false_and, Bool.not_eq_true, beq_self_eq_true, Nat.add_zero, Int.reduceLE, Int.reduceLT, Int.reduceToNat, Int.reduceNeg, f1, f12, hlt', rk, tl, ll, z16, hzm, hal, hlp, n0, e0, hfold2]
    clear hJ hfold2 e0 n0 z16 hlp
    obtain ⟨bm, hbm⟩ : ∃ b, b = g.size := ⟨_, rfl⟩
    rw [← hbm] at hm hbg ⊢
    refine VS.loop' (fun F g => F 1 = .pointer (some ⟨ba, 0, none⟩) ∧ F 3 = .pointer (some ⟨bm, 0, none⟩) ∧ F 12 = .int .i64 k ∧ ∃ i : Nat, 1 ≤ i ∧ i ≤ 16 ∧ F 4 = .int .i64 i ∧ g = J.setIfInBounds bm (fldC (fst l i)))
      (fun F _ => 16 - (vi (F 4)).toNat) rfl ⟨f1, rfl, f12, 1, by omega, by omega, rfl, (set_same hm).symm⟩ ?_
    clear f1 f12 F
    rintro F g' ⟨f1, f3, f12, i, hi1, hi, f4, rfl⟩
    have hx2 := cells_new (o := fldC (fst l i)) hm
    have lf := fst_length l i
    by_cases hi2 : i < 16
    · have hi2' : (i : Int) < 16 := by omega
      have hst := fst_step (l := l) hi1 hi2
      have a1 := fst_at l i hi2
      rw [if_neg (by omega), if_neg (by omega)] at a1
      have a2 := fst_at l i (j := i - 1) (by omega)
      rw [if_neg (by omega), if_pos (by omega)] at a2
      obtain ⟨b1, b2, b3⟩ := fraw_bor nk (i := i - 1) (by omega)
      rw [show i - 1 + 1 = i by omega] at b1
      have cb := fbor_bit l i
      have cc := nk.cell hi2
      have hraw : fraw l i = l.getD i 0 - fpd i - fbor l i := rfl
      obtain ⟨p, hp⟩ : ∃ p, p = fst l i := ⟨_, rfl⟩
      obtain ⟨v, hv⟩ : ∃ v, v = l.getD i 0 := ⟨_, rfl⟩
      obtain ⟨x, hxx⟩ : ∃ x, x = fraw l (i - 1) := ⟨_, rfl⟩
      obtain ⟨b, hbb⟩ : ∃ b, b = fbor l i := ⟨_, rfl⟩
      rw [← hp] at hx2 lf hst a1 a2 ⊢
      rw [← hv] at a1 hraw cc
      rw [← hxx] at hst a2 b1 b2 b3
      rw [← hbb] at b1 cb hraw
      clear hp hv hxx hbb
      have e1 : (i : Int) - 1 = ((i - 1 : Nat) : Int) := by omega
      have e2 : ((i - 1 : Nat) : Int) < 16 := by omega
      have s1 := shr16 x
      have s2 := and1 (x / 65536)
      rw [b1] at s2
      have s3 := and16 x
      obtain ⟨G, hG⟩ : ∃ G, G = J.setIfInBounds bm (fldC p) := ⟨_, rfl⟩
      rw [← hG] at hx2 ⊢
      have g1 := icells_get hx2 (i := i) (by omega)
      rw [a1] at g1
      have cw : ∀ (G : Hp) (q : List Int) (j : Nat) (y : Int), G[bm]? = some (fldC q) → q.length = 16 → j < 16 → wr1 G ⟨bm, j, none⟩ (.int .i64 y) = some (G.setIfInBounds bm (fldC (q.set j y))) := fun G q j y hx hq hj => icells_set hx (by omega) y
      have c1 := cw G p i (v - 65535) hx2 lf hi2
      by_cases h15 : i = 15
      · have hpd' : fpd 15 = 32767 := rfl
        subst h15
        have c15 : ((15 : Nat) : Int) = 15 := rfl
        rw [c15] at f4 hi2'
        simp only [Nat.reduceSub, Nat.reduceAdd] at hst a2
        rw [hpd'] at hraw
        have x1 := cells_new (o := fldC (p.set 15 (v - 65535))) hx2
        have l1 : (p.set 15 (v - 65535)).length = 16 := by rw [List.length_set, lf]
        have k1 := icells_get x1 (i := 15) (by omega)
        rw [igetD_set_eq (by omega)] at k1
        obtain ⟨G1, hG1⟩ : ∃ G1, G1 = G.setIfInBounds bm (fldC (p.set 15 (v - 65535))) := ⟨_, rfl⟩
        rw [← hG1] at c1 x1 k1
        have cA := cw G1 _ 15 (v - 65535 + 32768) x1 l1 hi2
        rw [List.set_set] at cA
        have xA := cells_new (o := fldC (p.set 15 (v - 65535 + 32768))) x1
        have lA : (p.set 15 (v - 65535 + 32768)).length = 16 := by rw [List.length_set, lf]
        have kA := icells_get xA (i := 15) (by omega)
        have k2 := icells_get xA (i := 14) (by omega)
        rw [igetD_set_eq (by omega)] at kA
        rw [igetD_set_ne (by omega), a2] at k2
        obtain ⟨GA, hGA⟩ : ∃ GA, GA = G1.setIfInBounds bm (fldC (p.set 15 (v - 65535 + 32768))) := ⟨_, rfl⟩
        rw [← hGA] at cA xA kA k2
        have hrA : v - 65535 + 32768 - b = fraw l 15 := by omega
        have c2 := cw GA _ 15 (v - 65535 + 32768 - b) xA lA hi2
        rw [List.set_set, hrA] at c2
        have x2 := cells_new (o := fldC (p.set 15 (fraw l 15))) xA
        have l2 : (p.set 15 (fraw l 15)).length = 16 := by rw [List.length_set, lf]
        have k3 := icells_get x2 (i := 14) (by omega)
        rw [igetD_set_ne (by omega), a2] at k3
        obtain ⟨G2, hG2⟩ : ∃ G2, G2 = GA.setIfInBounds bm (fldC (p.set 15 (fraw l 15))) := ⟨_, rfl⟩
        rw [← hG2] at c2 x2 k3
        have c3 := cw G2 _ 14 (x % 65536) x2 l2 (by omega)
        rw [hst] at c3
        rw [← hrA] at c2
        simp (config := {maxSteps := 2000000, implicitDefEqProofs := false}) only [go_sem, ↓reduceIte, Nat.reduceEqDiff, Nat.reduceAdd, Nat.reduceMul, Nat.reduceLeDiff, Nat.reduceLT, Nat.reduceSub, IntWalk.iteOmega, IntWalk.toNatUp, reduceCtorEq, false_and, and_false, false_or, or_false, true_or, or_true, not_true_eq_false, not_false_eq_true, Bool.not_true, Bool.not_false, Bool.and_true, Bool.true_and, Bool.and_false, Bool.false_and, Bool.not_eq_true, beq_self_eq_true, Nat.add_zero, Int.reduceLE, Int.reduceLT, Int.reduceToNat, Int.reduceNeg, f1, f3, f12, f4, hi2', Int.toNat_natCast, Nat.zero_add, g1, c1, k1, cA]
        refine VS.w (bm + 1) [11] (.q 0 (.q 1 (.q 2 (.q 3 (.q 4 (.q 5 (.q 6 (.q 7 (.q 8 (.q 9 (.q 10 (.w 11 .nil)))))))))))) mixed (by kernel_rfl) ?_
        simp (config := {maxSteps := 2000000, implicitDefEqProofs := false}) only [go_sem, ↓reduceIte, Nat.reduceEqDiff, Nat.reduceAdd, Nat.reduceMul, Nat.reduceLeDiff, Nat.reduceLT, Nat.reduceSub, IntWalk.iteOmega, IntWalk.toNatUp, reduceCtorEq, false_and, and_false, false_or, or_false, true_or, or_true, not_true_eq_false, not_false_eq_true, Bool.not_true, Bool.not_false, Bool.and_true, Bool.true_and, Bool.and_false, Bool.false_and, Bool.not_eq_true, beq_self_eq_true, Nat.add_zero, Int.reduceLE, Int.reduceLT, Int.reduceToNat, Int.reduceNeg, f1, f3, f12, f4, Int.toNat_natCast, Nat.zero_add, kA, k2, s1, s2, c2, k3, s3, c3]
        refine ⟨⟨f1, f3, f12, 15 + 1, by omega, by omega, rfl, ?_⟩, ?_⟩
        · rw [hG2, set_set, hGA, set_set, hG1, set_set, hG, set_set]
        · simp only [vi, updo_some, ↓reduceIte, f4]; omega
      · have h15' : ¬ (i : Int) = 15 := by omega
        have hpd : fpd i = 65535 := by unfold fpd; rw [if_neg (by omega), if_neg h15]
        rw [hpd] at hraw
        have x1 := cells_new (o := fldC (p.set i (v - 65535))) hx2
        have l1 : (p.set i (v - 65535)).length = 16 := by rw [List.length_set, lf]
        have k1 := icells_get x1 (i := i) (by omega)
        have k2 := icells_get x1 (i := i - 1) (by omega)
        rw [igetD_set_eq (by omega)] at k1
        rw [igetD_set_ne (by omega), a2] at k2
        obtain ⟨G1, hG1⟩ : ∃ G1, G1 = G.setIfInBounds bm (fldC (p.set i (v - 65535))) := ⟨_, rfl⟩
        rw [← hG1] at c1 x1 k1 k2
        have c2 := cw G1 _ i (v - 65535 - b) x1 l1 hi2
        rw [List.set_set, ← hraw] at c2
        have x2 := cells_new (o := fldC (p.set i (fraw l i))) x1
        have l2 : (p.set i (fraw l i)).length = 16 := by rw [List.length_set, lf]
        have k3 := icells_get x2 (i := i - 1) (by omega)
        rw [igetD_set_ne (by omega), a2] at k3
        obtain ⟨G2, hG2⟩ : ∃ G2, G2 = G1.setIfInBounds bm (fldC (p.set i (fraw l i))) := ⟨_, rfl⟩
        rw [← hG2] at c2 x2 k3
        have c3 := cw G2 _ (i - 1) (x % 65536) x2 l2 (by omega)
        rw [hst] at c3
        rw [hraw] at c2
        simp (config := {maxSteps := 2000000, implicitDefEqProofs := false}) only [go_sem, ↓reduceIte, Nat.reduceEqDiff, Nat.reduceAdd, Nat.reduceMul, Nat.reduceLeDiff, Nat.reduceLT, Nat.reduceSub, IntWalk.iteOmega, IntWalk.toNatUp, reduceCtorEq, false_and, and_false, false_or, or_false, true_or, or_true, not_true_eq_false, not_false_eq_true, Bool.not_true, Bool.not_false, Bool.and_true, Bool.true_and, Bool.and_false, Bool.false_and, Bool.not_eq_true, beq_self_eq_true, Nat.add_zero, Int.reduceLE, Int.reduceLT, Int.reduceToNat, Int.reduceNeg, f1, f3, f12, f4, hi2', Int.toNat_natCast, Nat.zero_add, g1, c1, h15']
        refine VS.w (bm + 1) [11] (.q 0 (.q 1 (.q 2 (.q 3 (.q 4 (.q 5 (.q 6 (.q 7 (.q 8 (.q 9 (.q 10 (.w 11 .nil)))))))))))) mixed (by kernel_rfl) ?_
        simp (config := {maxSteps := 2000000, implicitDefEqProofs := false}) only [go_sem, ↓reduceIte, Nat.reduceEqDiff, Nat.reduceAdd, Nat.reduceMul, Nat.reduceLeDiff, Nat.reduceLT, Nat.reduceSub, IntWalk.iteOmega, IntWalk.toNatUp, reduceCtorEq, false_and, and_false, false_or, or_false, true_or, or_true, not_true_eq_false, not_false_eq_true, Bool.not_true, Bool.not_false, Bool.and_true, Bool.true_and, Bool.and_false, Bool.false_and, Bool.not_eq_true, beq_self_eq_true, Nat.add_zero, Int.reduceLE, Int.reduceLT, Int.reduceToNat, Int.reduceNeg, f1, f3, f12, f4, e1, e2, hi2', Int.toNat_natCast, Nat.zero_add, k1, k2, s1, s2, c2, k3, s3, c3]
        refine ⟨⟨f1, f3, f12, i + 1, by omega, by omega, rfl, ?_⟩, ?_⟩
        · rw [hG2, set_set, hG1, set_set, hG, set_set]
        · simp only [vi, updo_some, ↓reduceIte, f4]; omega
    · have hge : ¬ (i : Int) < 16 := by omega
      obtain rfl : i = 16 := by omega
      have c16 : ((16 : Nat) : Int) = 16 := rfl
      rw [c16] at f4 hge
      have hla := fst_last (l := l)
      have a1 := fst_at l 16 (j := 15) (by omega)
      rw [if_neg (by omega), if_pos (by omega)] at a1
      obtain ⟨b1, b2, b3⟩ := fraw_bor nk (i := 15) (by omega)
      rw [show 15 + 1 = 16 from rfl] at b1
      have cb := fbor_bit l 16
      have hfo : fonce l = if decide (fbor l 16 = 0) = true then fsub l else l := by unfold fonce; simp
      have hsn := fsub_near l
      obtain ⟨p, hp⟩ : ∃ p, p = fst l 16 := ⟨_, rfl⟩
      obtain ⟨x, hxx⟩ : ∃ x, x = fraw l 15 := ⟨_, rfl⟩
      obtain ⟨b, hbb⟩ : ∃ b, b = fbor l 16 := ⟨_, rfl⟩
      rw [← hp] at hx2 lf hla a1 ⊢
      rw [← hxx] at hla a1 b1 b2 b3
      rw [← hbb] at b1 cb hfo
      clear hp hxx hbb
      have s1 := shr16 x
      have s2 := and1 (x / 65536)
      rw [b1] at s2
      have s3 := and16 x
      have hm0' : (J.setIfInBounds bm (fldC p))[ba]? = some (fldC l) := by rw [Array.getElem?_setIfInBounds, if_neg (by omega)]; exact hm0
      have hmB' : Bel ba h (J.setIfInBounds bm (fldC p)) := hmB.addSet (by omega) _
      obtain ⟨G, hG⟩ : ∃ G, G = J.setIfInBounds bm (fldC p) := ⟨_, rfl⟩
      rw [← hG] at hx2 hm0' hmB' ⊢
      clear hG
      have g1 := icells_get hx2 (i := 15) (by omega)
      rw [a1] at g1
      have c1 : wr1 G ⟨bm, 15, none⟩ (.int .i64 (x % 65536)) = some (G.setIfInBounds bm (fldC (fsub l))) := by rw [← hla]; exact icells_set hx2 (i := 15) (by omega) _
      have y0 : (G.setIfInBounds bm (fldC (fsub l)))[ba]? = some (fldC l) := by rw [Array.getElem?_setIfInBounds, if_neg (by omega)]; exact hm0'
      have y1 := cells_new (o := fldC (fsub l)) hx2
      have yB : Bel ba h (G.setIfInBounds bm (fldC (fsub l))) := hmB'.addSet (by omega) _
      obtain ⟨K, hK⟩ : ∃ K, K = G.setIfInBounds bm (fldC (fsub l)) := ⟨_, rfl⟩
      rw [← hK] at c1 y0 y1 yB
      clear hK
      have hso : (1 : Int) - b = if decide (b = 0) = true then 1 else 0 := by rcases cb with e | e <;> subst e <;> rfl
      have sw := fldSwap_ok T K ba bm (by omega) (decide (b = 0)) l (fsub l) nk.1 hsn.1 ((nk.inK (by omega)).mono (by omega)) ((hsn.inK (by omega)).mono (by omega)) y0 y1
      rw [← hso, ← hfo] at sw
      have z0 : ∀ o, ((K.setIfInBounds ba (fldC (fonce l))).setIfInBounds bm o)[ba]? = some (fldC (fonce l)) := fun o => by rw [Array.getElem?_setIfInBounds, if_neg (by omega)]; exact cells_new y0
      have zB : ∀ o, Bel ba h ((K.setIfInBounds ba (fldC (fonce l))).setIfInBounds bm o) := fun o => (yB.addSet (by omega) _).addSet (by omega) _
      simp (config := {maxSteps := 2000000, implicitDefEqProofs := false}) only [go_sem, ↓reduceIte, Nat.reduceEqDiff, Nat.reduceAdd, Nat.reduceMul, Nat.reduceLeDiff, Nat.reduceLT, Nat.reduceSub, IntWalk.iteOmega, IntWalk.toNatUp, reduceCtorEq, false_and, and_false, false_or, or_false, true_or, or_true, not_true_eq_false, not_false_eq_true, Bool.not_true, Bool.not_false, Bool.and_true, Bool.true_and, Bool.and_false, Bool.false_and, Bool.not_eq_true, beq_self_eq_true, Nat.add_zero, Int.reduceLE, Int.reduceLT, Int.reduceToNat, Int.reduceNeg, f1, f3, f12, f4, hge, g1, s1, s2, s3, c1]
      refine sw.use ?_
      rintro _ _ rfl
      simp (config := {maxSteps := 2000000, implicitDefEqProofs := false}) only [go_sem, ↓reduceIte, Nat.reduceEqDiff, Nat.reduceAdd, Nat.reduceMul, Nat.reduceLeDiff, Nat.reduceLT, Nat.reduceSub, IntWalk.iteOmega, IntWalk.toNatUp, reduceCtorEq, false_and, and_false, false_or, or_false, true_or, or_true, not_true_eq_false, not_false_eq_true, Bool.not_true, Bool.not_false, Bool.and_true, Bool.true_and, Bool.and_false, Bool.false_and, Bool.not_eq_true, beq_self_eq_true, Nat.add_zero, Int.reduceLE, Int.reduceLT, Int.reduceToNat, Int.reduceNeg, f1, f3, f12, f4]
      refine ⟨⟨f1, k + 1, by omega, rfl, ?_, zB _⟩, ?_⟩
      · rw [hnext]; exact z0 _
      · simp only [vi, updo_some, ↓reduceIte, f12]; omega
  · have hge : ¬ (k : Int) < 2 := by omega
    obtain rfl : k = 2 := by omega
    have c2 : ((2 : Nat) : Int) = 2 := rfl
    rw [c2] at f12 hge
    obtain ⟨l, hl⟩ : ∃ l, l = fon y 2 := ⟨_, rfl⟩
    rw [← hl] at nk rk g0 ⊢
    clear hl
    have ll : (l.map sv).length = 16 := by simp [nk.1]
    have tl : (l.map sv).take 16 = l.map sv := List.take_of_length_le (by omega)
    simp (config := {maxSteps := 2000000, implicitDefEqProofs := false}) only [go_sem, ↓reduceIte, Nat.reduceEqDiff, Nat.reduceAdd, Nat.reduceMul, Nat.reduceLeDiff, Nat.reduceLT, Nat.reduceSub, IntWalk.iteOmega, IntWalk.toNatUp, reduceCtorEq, false_and, and_false, false_or, or_false, true_or, or_true, not_true_eq_false, not_false_eq_true, Bool.not_true, Bool.not_false, Bool.and_true, Bool.true_and, Bool.and_false, Bool.false_and, Bool.not_eq_true, beq_self_eq_true, Nat.add_zero, Int.reduceLE, Int.reduceLT, Int.reduceToNat, Int.reduceNeg, f1, f12, hge, rk, ll, tl]
    refine VS.loop' (fun F g => F 64 = .agg (l.map sv).toArray ∧ Bel ba h g ∧ ∃ i : Nat, i ≤ 16 ∧ F 65 = .int .i64 i ∧ OBs ba 5 g (F 6) (fby l i))
      (fun F _ => 16 - (vi (F 65)).toNat) rfl ⟨rfl, gB, 0, by omega, rfl, OBs.nil _ _ _⟩ ?_
    clear f1 f12 g0 gB F
    rintro F g ⟨f64, gB, i, hi, f65, ho⟩
    by_cases hlt : i < 16
    · have hlt' : (i : Int) < 16 := by omega
      have n1 := nth_sv (l := l) (i := i) (by rw [nk.1]; exact hlt)
      have c := nk.cell hlt
      have hfb : fby l (i + 1) = fby l i ++ [(l.getD i 0 % 256).toNat, (l.getD i 0 / 256).toNat] := rfl
      have hfl := fby_length l i
      obtain ⟨m, hm⟩ : ∃ m : Nat, l.getD i 0 = (m : Int) := ⟨(l.getD i 0).toNat, by omega⟩
      rw [hm] at n1 c hfb
      have m1 : ((m : Int) % 256).toNat = m % 256 := by omega
      have m2 : ((m : Int) / 256).toNat = m / 256 := by omega
      rw [m1, m2] at hfb
      have d0 : (m : Int) % 256 = ((m % 256 : Nat) : Int) := rfl
      have d1 : shrOp .i64 (m : Int) 8 = ((m / 256 : Nat) : Int) := by have := shr_nat .i64 m 8 (by decide); rw [Nat.shiftRight_eq_div_pow] at this; exact this
      have d2 : ((m / 256 : Nat) : Int) % 256 = ((m / 256 : Nat) : Int) := by omega
      generalize fby l i = bs at *
      have hgs := gB.size
      simp (config := {maxSteps := 2000000, implicitDefEqProofs := false}) only [go_sem, ↓reduceIte, Nat.reduceEqDiff, Nat.reduceAdd, Nat.reduceMul, Nat.reduceLeDiff, Nat.reduceLT, Nat.reduceSub, IntWalk.iteOmega, IntWalk.toNatUp, reduceCtorEq, false_and, and_false, false_or, or_false, true_or, or_true, not_true_eq_false, not_false_eq_true, Bool.not_true, Bool.not_false, Bool.and_true, Bool.true_and, Bool.and_false, Bool.false_and, Bool.not_eq_true, beq_self_eq_true, Nat.add_zero, Int.reduceLE, Int.reduceLT, Int.reduceToNat, Int.reduceNeg, f64, f65, hlt', Int.toNat_natCast, n1, d0, d1, d2]
      refine append_bytes (E := 5) (B := ba) tsl30 Try.underlying30 tn5 tz5 tb5 (ho.push _) (by simp; omega) (Bs.made (l := [m % 256, m / 256]) (fun x hx => by simp only [List.mem_cons, List.not_mem_nil, or_false] at hx; rcases hx with rfl | rfl <;> omega) 2) (by simp; omega) ?_
      intro v' h2 ho' hb2 _
      simp (config := {maxSteps := 2000000, implicitDefEqProofs := false}) only [go_sem, ↓reduceIte, Nat.reduceEqDiff, Nat.reduceAdd, Nat.reduceMul, Nat.reduceLeDiff, Nat.reduceLT, Nat.reduceSub, IntWalk.iteOmega, IntWalk.toNatUp, reduceCtorEq, false_and, and_false, false_or, or_false, true_or, or_true, not_true_eq_false, not_false_eq_true, Bool.not_true, Bool.not_false, Bool.and_true, Bool.true_and, Bool.and_false, Bool.false_and, Bool.not_eq_true, beq_self_eq_true, Nat.add_zero, Int.reduceLE, Int.reduceLT, Int.reduceToNat, Int.reduceNeg, f64, f65]
      refine ⟨⟨f64, (gB.addP (by omega) _).trans hb2, i + 1, hlt, rfl, ?_⟩, ?_⟩
      · rw [hfb]; exact ho'
      · simp only [vi, updo_some, ↓reduceIte, f65]; omega
    · have hge : ¬ (i : Int) < 16 := by omega
      obtain rfl : i = 16 := by omega
      have c16 : ((16 : Nat) : Int) = 16 := rfl
      rw [c16] at f65 hge
      simp (config := {maxSteps := 2000000, implicitDefEqProofs := false}) only [go_sem, ↓reduceIte, Nat.reduceEqDiff, Nat.reduceAdd, Nat.reduceMul, Nat.reduceLeDiff, Nat.reduceLT, Nat.reduceSub, IntWalk.iteOmega, IntWalk.toNatUp, reduceCtorEq, false_and, and_false, false_or, or_false, true_or, or_true, not_true_eq_false, not_false_eq_true, Bool.not_true, Bool.not_false, Bool.and_true, Bool.true_and, Bool.and_false, Bool.false_and, Bool.not_eq_true, beq_self_eq_true, Nat.add_zero, Int.reduceLE, Int.reduceLT, Int.reduceToNat, Int.reduceNeg, f65, hge]
      exact ⟨ho, gB⟩
end Go.Proofs.Ytiakfdpmapmifaa
