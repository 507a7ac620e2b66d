/- The program's carry from limb to limb; no condition but those in the statements. -/
import Derived.Test.YtjgbajgmndkfjaaNum
namespace Go.Proofs.Ytjgbajgmndkfjaa
open Go Go.V
set_option linter.unusedSimpArgs false
set_option linter.unusedVariables false
set_option maxRecDepth 100000
def carry1 (l : List Nat) (i : Nat) : List Nat :=
  if i < 4 then (l.set i (l.getD i 0 % 67108864)).set (i + 1) ((l.set i (l.getD i 0 % 67108864)).getD (i + 1) 0 + l.getD i 0 / 67108864)
  else (l.set i (l.getD i 0 % 67108864)).set 0 ((l.set i (l.getD i 0 % 67108864)).getD 0 0 + 5 * (l.getD i 0 / 67108864))
def carryN (l : List Nat) : Nat → List Nat
  | 0 => l
  | i + 1 => carry1 (carryN l i) i
def LtAll (K : Nat) (l : List Nat) : Prop := ∀ x ∈ l, x < K
theorem LtAll.getD {K : Nat} {l : List Nat} (w : LtAll K l) (hK : 0 < K) (i : Nat) : l.getD i 0 < K := by
  by_cases hi : i < l.length
  · have e : l.getD i 0 = l[i] := by rw [List.getD_eq_getElem?_getD, List.getElem?_eq_getElem hi]; rfl
    rw [e]; exact w _ (List.getElem_mem hi)
  · rw [getD_none hi]; exact hK
theorem LtAll.set {K : Nat} {l : List Nat} (w : LtAll K l) (i x : Nat) (hx : x < K) : LtAll K (l.set i x) := by
  intro y hy
  rcases List.mem_or_eq_of_mem_set hy with h | h
  · exact w y h
  · rw [h]; exact hx
theorem LtAll.mono {K K' : Nat} {l : List Nat} (w : LtAll K l) (h : K ≤ K') : LtAll K' l := fun x hx => Nat.lt_of_lt_of_le (w x hx) h
theorem carry1_length (l : List Nat) (i : Nat) : (carry1 l i).length = l.length := by
  unfold carry1; split <;> simp
theorem carryN_length (l : List Nat) : ∀ i, (carryN l i).length = l.length
  | 0 => rfl
  | i + 1 => by rw [carryN, carry1_length, carryN_length l i]
theorem carry1_lt {K : Nat} {l : List Nat} {i : Nat} (w : LtAll K l) (h0 : 67108864 ≤ K) (hK : K ≤ 2 ^ 62) : LtAll (K + 2 ^ 39) (carry1 l i) := by
  have hx := w.getD (by omega) i
  have w1 : LtAll K (l.set i (l.getD i 0 % 67108864)) := w.set i _ (by omega)
  have hy := w1.getD (by omega) (i + 1)
  have hz := w1.getD (by omega) 0
  unfold carry1
  split
  · exact (w1.mono (by omega)).set _ _ (by omega)
  · exact (w1.mono (by omega)).set _ _ (by omega)
theorem carryN_lt {K : Nat} {l : List Nat} (w : LtAll K l) (h0 : 67108864 ≤ K) (hK : K ≤ 2 ^ 61) : ∀ i, i ≤ 5 → LtAll (K + i * 2 ^ 39) (carryN l i)
  | 0, _ => by rw [Nat.zero_mul, Nat.add_zero]; exact w
  | i + 1, hi => by
    have := carry1_lt (i := i) (carryN_lt w h0 hK i (by omega)) (by omega) (by omega)
    rw [carryN]
    exact this.mono (by omega)
theorem getD_set_ne' {l : List Nat} {i j x : Nat} (h : i ≠ j) : (l.set i x).getD j 0 = l.getD j 0 := by
  rw [List.getD_eq_getElem?_getD, List.getD_eq_getElem?_getD, List.getElem?_set_ne h]
def limC (l : List Nat) : Obj := .cells (l.map uv ++ []).toArray 165
theorem shr26 (x : Nat) : shrOp .u64 (x : Int) 26 = ((x / 67108864 : Nat) : Int) := shr_u64 x 26 (by decide)
set_option maxHeartbeats 1000000 in
theorem carry_loop (T : World) (h : Hp) (bk : Nat) (l : List Nat) (hl : l.length = 5) (w : LtAll (2 ^ 61) l) (hb : h[bk]? = some (limC l)) :
    CallsH Try.prog T 171 #[.pointer (some ⟨bk, 0, none⟩)] h fun v' h' => ∃ a, a = carryN l 5 ∧ h' = h.setIfInBounds bk (limC ((a.set 1 (a.getD 1 0 + a.getD 0 0 / 67108864)).set 0 (a.getD 0 0 % 67108864))) := by
  refine CallsH.of_code' (args := [_]) Try.func171 rfl rfl rfl rfl ?_
  simp (config := {maxSteps := 2000000, implicitDefEqProofs := false}) only [go_sem, ↓reduceIte, Nat.reduceEqDiff, Nat.reduceAdd, Nat.reduceMul, Nat.reduceLeDiff, Nat.reduceLT, Nat.reduceSub, IntWalk.iteOmega, IntWalk.toNatUp, reduceCtorEq, false_and, and_false, false_or, or_false, true_or, or_true, not_true_eq_false, not_false_eq_true, Bool.not_true, Bool.not_false, Bool.and_true, Bool.true_and, Bool.and_false, Bool.false_and, Bool.not_eq_true, beq_self_eq_true, Nat.add_zero, Int.reduceLE, Int.reduceLT, Int.reduceToNat, Int.reduceNeg]
  refine VS.loop' (fun F g => F 0 = .pointer (some ⟨bk, 0, none⟩) ∧ ∃ i : Nat, i ≤ 5 ∧ F 4 = .int .i64 i ∧ g = h.setIfInBounds bk (limC (carryN l i)))
    (fun F _ => 5 - (vi (F 4)).toNat) rfl ⟨rfl, 0, by omega, rfl, (set_same hb).symm⟩ ?_
  rintro F g ⟨f0, i, hi, f4, rfl⟩
  have hx := cells_new (o := limC (carryN l i)) hb
  have hw := carryN_lt w (by decide) (by decide) i hi
  have hw2 := hw.getD (by omega) i
  have hln : (carryN l i).length = 5 := by rw [carryN_length, hl]
  by_cases hlt : i < 5
  · have hlt' : (i : Int) < 5 := by omega
    have hnext : carryN l (i + 1) = carry1 (carryN l i) i := rfl
    obtain ⟨a, ha⟩ : ∃ a, a = carryN l i := ⟨_, rfl⟩
    rw [← ha] at hx hw hw2 hln hnext ⊢
    obtain ⟨G, hG⟩ : ∃ G, G = h.setIfInBounds bk (limC a) := ⟨_, rfl⟩
    rw [← hG] at hx ⊢
    have g1 := cells_get hx (i := i) (by omega)
    unfold uv at g1
    obtain ⟨x, hxx⟩ : ∃ x, x = a.getD i 0 := ⟨_, rfl⟩
    rw [← hxx] at g1 hw2
    have e1 := shr26 x
    have e2 := mask26 x (by omega)
    simp (config := {maxSteps := 2000000, implicitDefEqProofs := false}) only [go_sem, ↓reduceIte, Nat.reduceEqDiff, Nat.reduceAdd, Nat.reduceMul, Nat.reduceLeDiff, Nat.reduceLT, Nat.reduceSub, IntWalk.iteOmega, IntWalk.toNatUp, reduceCtorEq, false_and, and_false, false_or, or_false, true_or, or_true, not_true_eq_false, not_false_eq_true, Bool.not_true, Bool.not_false, Bool.and_true, Bool.true_and, Bool.and_false, Bool.false_and, Bool.not_eq_true, beq_self_eq_true, Nat.add_zero, Int.reduceLE, Int.reduceLT, Int.reduceToNat, Int.reduceNeg, f0, f4, hlt', Int.toNat_natCast, Nat.zero_add, g1, e1]
    refine VS.w (bk + 1) [8] (.q 0 (.q 1 (.q 2 (.q 3 (.q 4 (.q 5 (.q 6 (.q 7 (.w 8 .nil))))))))) mixed (by kernel_rfl) ?_
    have c1 : wr1 _ ⟨bk, i, none⟩ (.int .u64 (x % 67108864 : Nat)) = _ := cells_set (f := uv) hx (i := i) (by omega) (x % 67108864) rfl
    have hx1 := cells_new (o := .cells ((a.set i (x % 67108864)).map uv ++ []).toArray 165) hx
    have hw1 := hw.set i (x % 67108864) (by omega)
    have hc1 : carry1 a i = if i < 4 then (a.set i (x % 67108864)).set (i + 1) ((a.set i (x % 67108864)).getD (i + 1) 0 + x / 67108864) else (a.set i (x % 67108864)).set 0 ((a.set i (x % 67108864)).getD 0 0 + 5 * (x / 67108864)) := by rw [hxx]; rfl
    have hl1 : (a.set i (x % 67108864)).length = 5 := by rw [List.length_set, hln]
    obtain ⟨a1, ha1⟩ : ∃ a1, a1 = a.set i (x % 67108864) := ⟨_, rfl⟩
    rw [← ha1] at hx1 hw1 hc1 hl1 c1
    obtain ⟨G1, hG1⟩ : ∃ G1, G1 = G.setIfInBounds bk (.cells (a1.map uv ++ []).toArray 165) := ⟨_, rfl⟩
    rw [← hG1] at hx1 c1
    by_cases h4 : i < 4
    · have h4' : (i : Int) < 4 := by omega
      rw [if_pos h4] at hc1
      simp (config := {maxSteps := 2000000, implicitDefEqProofs := false}) only [go_sem, ↓reduceIte, Nat.reduceEqDiff, Nat.reduceAdd, Nat.reduceMul, Nat.reduceLeDiff, Nat.reduceLT, Nat.reduceSub, IntWalk.iteOmega, IntWalk.toNatUp, reduceCtorEq, false_and, and_false, false_or, or_false, true_or, or_true, not_true_eq_false, not_false_eq_true, Bool.not_true, Bool.not_false, Bool.and_true, Bool.true_and, Bool.and_false, Bool.false_and, Bool.not_eq_true, beq_self_eq_true, Nat.add_zero, Int.reduceLE, Int.reduceLT, Int.reduceToNat, Int.reduceNeg, f0, f4, hlt', Int.toNat_natCast, Nat.zero_add, g1, e1, e2, c1, h4']
      refine VS.w (bk + 1) [10] (.q 0 (.q 1 (.q 2 (.q 3 (.q 4 (.q 5 (.q 6 (.q 7 (.q 8 (.q 9 (.w 10 .nil))))))))))) mixed (by kernel_rfl) ?_
      have g2 := cells_get hx1 (i := i + 1) (by omega)
      unfold uv at g2
      have hy := hw1.getD (by omega) (i + 1)
      obtain ⟨y, hyy⟩ : ∃ y, y = a1.getD (i + 1) 0 := ⟨_, rfl⟩
      rw [← hyy] at g2 hy hc1
      have e3 : (y : Int) + ((x / 67108864 : Nat) : Int) = ((y + x / 67108864 : Nat) : Int) := by omega
      have e4 : ((y + x / 67108864 : Nat) : Int) % 18446744073709551616 = ((y + x / 67108864 : Nat) : Int) := by omega
      have ei : (i : Int) + 1 = ((i + 1 : Nat) : Int) := rfl
      have hi1 : ((i + 1 : Nat) : Int) < 5 := by omega
      have c2 : wr1 G1 ⟨bk, i + 1, none⟩ (.int .u64 (y + x / 67108864 : Nat)) = _ := cells_set (f := uv) hx1 (i := i + 1) (by omega) (y + x / 67108864) rfl
      simp (config := {maxSteps := 2000000, implicitDefEqProofs := false}) only [go_sem, ↓reduceIte, Nat.reduceEqDiff, Nat.reduceAdd, Nat.reduceMul, Nat.reduceLeDiff, Nat.reduceLT, Nat.reduceSub, IntWalk.iteOmega, IntWalk.toNatUp, reduceCtorEq, false_and, and_false, false_or, or_false, true_or, or_true, not_true_eq_false, not_false_eq_true, Bool.not_true, Bool.not_false, Bool.and_true, Bool.true_and, Bool.and_false, Bool.false_and, Bool.not_eq_true, beq_self_eq_true, Nat.add_zero, Int.reduceLE, Int.reduceLT, Int.reduceToNat, Int.reduceNeg, f0, f4, hlt', ei, hi1, Int.toNat_natCast, Nat.zero_add, g2, e3, e4, c2]
      refine ⟨⟨f0, i + 1, hlt, rfl, ?_⟩, ?_⟩
      · rw [hG1, set_set, hG, set_set, hnext, hc1]; rfl
      · simp only [vi, updo_some, ↓reduceIte, f4]; omega
    · have h4' : ¬ (i : Int) < 4 := by omega
      rw [if_neg h4] at hc1
      simp (config := {maxSteps := 2000000, implicitDefEqProofs := false}) only [go_sem, ↓reduceIte, Nat.reduceEqDiff, Nat.reduceAdd, Nat.reduceMul, Nat.reduceLeDiff, Nat.reduceLT, Nat.reduceSub, IntWalk.iteOmega, IntWalk.toNatUp, reduceCtorEq, false_and, and_false, false_or, or_false, true_or, or_true, not_true_eq_false, not_false_eq_true, Bool.not_true, Bool.not_false, Bool.and_true, Bool.true_and, Bool.and_false, Bool.false_and, Bool.not_eq_true, beq_self_eq_true, Nat.add_zero, Int.reduceLE, Int.reduceLT, Int.reduceToNat, Int.reduceNeg, f0, f4, hlt', Int.toNat_natCast, Nat.zero_add, g1, e1, e2, c1, h4']
      refine VS.w (bk + 1) [9] (.q 0 (.q 1 (.q 2 (.q 3 (.q 4 (.q 5 (.q 6 (.q 7 (.q 8 (.w 9 .nil)))))))))) mixed (by kernel_rfl) ?_
      have g2 := cells_get hx1 (i := 0) (by omega)
      unfold uv at g2
      have hy := hw1.getD (by omega) 0
      obtain ⟨y, hyy⟩ : ∃ y, y = a1.getD 0 0 := ⟨_, rfl⟩
      rw [← hyy] at g2 hy hc1
      have e5 : (5 : Int) * ((x / 67108864 : Nat) : Int) = ((5 * (x / 67108864) : Nat) : Int) := by omega
      have e6 : ((5 * (x / 67108864) : Nat) : Int) % 18446744073709551616 = ((5 * (x / 67108864) : Nat) : Int) := by omega
      have e3 : (y : Int) + ((5 * (x / 67108864) : Nat) : Int) = ((y + 5 * (x / 67108864) : Nat) : Int) := by omega
      have e4 : ((y + 5 * (x / 67108864) : Nat) : Int) % 18446744073709551616 = ((y + 5 * (x / 67108864) : Nat) : Int) := by omega
      have c2 : wr1 G1 ⟨bk, 0, none⟩ (.int .u64 (y + 5 * (x / 67108864) : Nat)) = _ := cells_set (f := uv) hx1 (i := 0) (by omega) (y + 5 * (x / 67108864)) rfl
      simp (config := {maxSteps := 2000000, implicitDefEqProofs := false}) only [go_sem, ↓reduceIte, Nat.reduceEqDiff, Nat.reduceAdd, Nat.reduceMul, Nat.reduceLeDiff, Nat.reduceLT, Nat.reduceSub, IntWalk.iteOmega, IntWalk.toNatUp, reduceCtorEq, false_and, and_false, false_or, or_false, true_or, or_true, not_true_eq_false, not_false_eq_true, Bool.not_true, Bool.not_false, Bool.and_true, Bool.true_and, Bool.and_false, Bool.false_and, Bool.not_eq_true, beq_self_eq_true, Nat.add_zero, Int.reduceLE, Int.reduceLT, Int.reduceToNat, Int.reduceNeg, f0, f4, hlt', Int.toNat_natCast, Nat.zero_add, g2, e3, e4, e5, e6, c2]
      refine ⟨⟨f0, i + 1, hlt, rfl, ?_⟩, ?_⟩
      · rw [hG1, set_set, hG, set_set, hnext, hc1]; rfl
      · simp only [vi, updo_some, ↓reduceIte, f4]; omega
  · have hge : ¬ (i : Int) < 5 := by omega
    obtain rfl : i = 5 := by omega
    obtain ⟨a, ha⟩ : ∃ a, a = carryN l 5 := ⟨_, rfl⟩
    rw [← ha] at hx hw hw2 hln ⊢
    obtain ⟨G, hG⟩ : ∃ G, G = h.setIfInBounds bk (limC a) := ⟨_, rfl⟩
    rw [← hG] at hx ⊢
    have g0 := cells_get hx (i := 0) (by omega)
    have g1 := cells_get hx (i := 1) (by omega)
    have y0 := hw.getD (by omega) 0
    have y1 := hw.getD (by omega) 1
    unfold uv at g0 g1
    obtain ⟨x, hxx⟩ : ∃ x, x = a.getD 0 0 := ⟨_, rfl⟩
    obtain ⟨y, hyy⟩ : ∃ y, y = a.getD 1 0 := ⟨_, rfl⟩
    rw [← hxx] at g0 y0
    rw [← hyy] at g1 y1
    have e1 := shr26 x
    have e2 := mask26 x (by omega)
    have e3 : (y : Int) + ((x / 67108864 : Nat) : Int) = ((y + x / 67108864 : Nat) : Int) := by omega
    have e4 : ((y + x / 67108864 : Nat) : Int) % 18446744073709551616 = ((y + x / 67108864 : Nat) : Int) := by omega
    have c5 : ((5 : Nat) : Int) = 5 := rfl
    rw [c5] at f4 hge
    simp (config := {maxSteps := 2000000, implicitDefEqProofs := false}) only [go_sem, ↓reduceIte, Nat.reduceEqDiff, Nat.reduceAdd, Nat.reduceMul, Nat.reduceLeDiff, Nat.reduceLT, Nat.reduceSub, IntWalk.iteOmega, IntWalk.toNatUp, reduceCtorEq, false_and, and_false, false_or, or_false, true_or, or_true, not_true_eq_false, not_false_eq_true, Bool.not_true, Bool.not_false, Bool.and_true, Bool.true_and, Bool.and_false, Bool.false_and, Bool.not_eq_true, beq_self_eq_true, Nat.add_zero, Int.reduceLE, Int.reduceLT, Int.reduceToNat, Int.reduceNeg, f0, f4, hge]
    refine VS.w (bk + 1) [12] (.q 0 (.q 1 (.q 2 (.q 3 (.q 4 (.q 5 (.q 6 (.q 7 (.q 8 (.q 9 (.q 10 (.q 11 (.w 12 .nil))))))))))))) mixed (by kernel_rfl) ?_
    have c1 : wr1 G ⟨bk, 1, none⟩ (.int .u64 (y + x / 67108864 : Nat)) = _ := cells_set (f := uv) hx (i := 1) (by omega) (y + x / 67108864) rfl
    have hx1 := cells_new (o := .cells ((a.set 1 (y + x / 67108864)).map uv ++ []).toArray 165) hx
    have hl1 : (a.set 1 (y + x / 67108864)).length = 5 := by rw [List.length_set, hln]
    obtain ⟨a1, ha1⟩ : ∃ a1, a1 = a.set 1 (y + x / 67108864) := ⟨_, rfl⟩
    rw [← ha1] at hx1 hl1 c1
    obtain ⟨G1, hG1⟩ : ∃ G1, G1 = G.setIfInBounds bk (.cells (a1.map uv ++ []).toArray 165) := ⟨_, rfl⟩
    rw [← hG1] at hx1 c1
    have g2 := cells_get hx1 (i := 0) (by omega)
    unfold uv at g2
    have g2e : a1.getD 0 0 = x := by rw [ha1, getD_set_ne' (by decide), ← hxx]
    rw [g2e] at g2
    simp (config := {maxSteps := 2000000, implicitDefEqProofs := false}) only [go_sem, ↓reduceIte, Nat.reduceEqDiff, Nat.reduceAdd, Nat.reduceMul, Nat.reduceLeDiff, Nat.reduceLT, Nat.reduceSub, IntWalk.iteOmega, IntWalk.toNatUp, reduceCtorEq, false_and, and_false, false_or, or_false, true_or, or_true, not_true_eq_false, not_false_eq_true, Bool.not_true, Bool.not_false, Bool.and_true, Bool.true_and, Bool.and_false, Bool.false_and, Bool.not_eq_true, beq_self_eq_true, Nat.add_zero, Int.reduceLE, Int.reduceLT, Int.reduceToNat, Int.reduceNeg, f0, Nat.zero_add, g0, g1, e1, e3, e4, c1]
    refine VS.w (bk + 1) [7] (.q 0 (.q 1 (.q 2 (.q 3 (.q 4 (.q 5 (.q 6 (.w 7 .nil)))))))) mixed (by kernel_rfl) ?_
    have c2 : wr1 G1 ⟨bk, 0, none⟩ (.int .u64 (x % 67108864 : Nat)) = _ := cells_set (f := uv) hx1 (i := 0) (by omega) (x % 67108864) rfl
    simp (config := {maxSteps := 2000000, implicitDefEqProofs := false}) only [go_sem, ↓reduceIte, Nat.reduceEqDiff, Nat.reduceAdd, Nat.reduceMul, Nat.reduceLeDiff, Nat.reduceLT, Nat.reduceSub, IntWalk.iteOmega, IntWalk.toNatUp, reduceCtorEq, false_and, and_false, false_or, or_false, true_or, or_true, not_true_eq_false, not_false_eq_true, Bool.not_true, Bool.not_false, Bool.and_true, Bool.true_and, Bool.and_false, Bool.false_and, Bool.not_eq_true, beq_self_eq_true, Nat.add_zero, Int.reduceLE, Int.reduceLT, Int.reduceToNat, Int.reduceNeg, f0, Nat.zero_add, g2, e2, c2]
    rw [hG1, set_set, hG, set_set, ha1]
    exact ⟨a, rfl, by rw [← hxx, ← hyy]; rfl⟩
end Go.Proofs.Ytjgbajgmndkfjaa
