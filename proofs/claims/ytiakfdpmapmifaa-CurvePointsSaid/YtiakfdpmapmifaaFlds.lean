/- The program's exchange of two numbers by a bit: the walk; no condition but those in the statements. -/
import Derived.Test.YtiakfdpmapmifaaFldi
namespace Go.Proofs.Ytiakfdpmapmifaa
open Go Go.V
set_option linter.unusedSimpArgs false
set_option linter.unusedVariables false
set_option maxRecDepth 100000
theorem wrap_toInt (x : BitVec 64) : IntKind.i64.wrap (x.toNat : Int) = x.toInt := by
  have := x.isLt
  rw [BitVec.toInt_eq_toNat_cond]
  by_cases c : 2 * x.toNat < 2 ^ 64
  · rw [if_pos c]; simp [IntKind.wrap, IntKind.bits, IntKind.signed]; omega
  · rw [if_neg c]; simp [IntKind.wrap, IntKind.bits, IntKind.signed]; omega
theorem toInt_of {x : Int} (h1 : -9223372036854775808 ≤ x) (h2 : x ≤ 9223372036854775807) : (BitVec.ofInt 64 x).toInt = x := by
  rw [BitVec.toInt_ofInt, Int.bmod_eq_of_le] <;> omega
theorem xor_sv (x y : Int) : bitOp .xor .i64 x y = (BitVec.ofInt 64 x ^^^ BitVec.ofInt 64 y).toInt := wrap_toInt _
theorem and_sv (x y : Int) : bitOp .and .i64 x y = (BitVec.ofInt 64 x &&& BitVec.ofInt 64 y).toInt := wrap_toInt _
theorem ofInt_to (x : BitVec 64) : BitVec.ofInt 64 x.toInt = x := BitVec.ofInt_toInt
theorem xor_xor_sv {x y : Int} (h1 : -9223372036854775808 ≤ y) (h2 : y ≤ 9223372036854775807) : bitOp .xor .i64 x (bitOp .xor .i64 x y) = y := by
  rw [xor_sv, xor_sv, ofInt_to, ← BitVec.xor_assoc, BitVec.xor_self, BitVec.zero_xor, toInt_of h1 h2]
theorem xor_comm_sv (x y : Int) : bitOp .xor .i64 x y = bitOp .xor .i64 y x := by rw [xor_sv, xor_sv, BitVec.xor_comm]
theorem xor_zero_sv {x : Int} (h1 : -9223372036854775808 ≤ x) (h2 : x ≤ 9223372036854775807) : bitOp .xor .i64 x 0 = x := by
  rw [xor_sv, show BitVec.ofInt 64 0 = 0#64 from rfl, BitVec.xor_zero, toInt_of h1 h2]
theorem and_ones_sv (x y : Int) : bitOp .and .i64 (-1) (bitOp .xor .i64 x y) = bitOp .xor .i64 x y := by
  rw [and_sv, xor_sv, ofInt_to, show BitVec.ofInt 64 (-1) = BitVec.allOnes 64 from rfl, BitVec.allOnes_and]
theorem and_zero_sv (x : Int) : bitOp .and .i64 0 x = 0 := by
  rw [and_sv, show BitVec.ofInt 64 0 = 0#64 from rfl, BitVec.zero_and]; rfl
def fsw (b : Bool) (x y : Int) : Int := if b then y else x
def swm (b : Bool) (x y : Int) : Int := bitOp .and .i64 (-(if b then 1 else 0)) (bitOp .xor .i64 x y)
theorem swm_one {b : Bool} {x y : Int} (h1 : -9223372036854775808 ≤ x) (h2 : x ≤ 9223372036854775807) (h3 : -9223372036854775808 ≤ y) (h4 : y ≤ 9223372036854775807) : bitOp .xor .i64 x (swm b x y) = fsw b x y := by
  cases b
  · show bitOp .xor .i64 x (bitOp .and .i64 0 _) = x
    rw [and_zero_sv, xor_zero_sv h1 h2]
  · show bitOp .xor .i64 x (bitOp .and .i64 (-1) _) = y
    rw [and_ones_sv, xor_xor_sv h3 h4]
theorem swm_two {b : Bool} {x y : Int} (h1 : -9223372036854775808 ≤ x) (h2 : x ≤ 9223372036854775807) (h3 : -9223372036854775808 ≤ y) (h4 : y ≤ 9223372036854775807) : bitOp .xor .i64 y (swm b x y) = fsw b y x := by
  have : swm b x y = swm b y x := by unfold swm; rw [xor_comm_sv]
  rw [this, swm_one h3 h4 h1 h2]
theorem fsw_all {b : Bool} {xs ys : List Int} (ha : xs.length = 16) (hb : ys.length = 16) : fpl (fsw b) xs ys 16 = if b then ys else xs := by
  refine List.ext_getElem (by rw [fpl_length]; cases b <;> simp [ha, hb]) fun j p q => ?_
  have hj : j < 16 := by rw [fpl_length] at p; omega
  have h := fpl_at (f := fsw b) (xs := xs) (ys := ys) 16 j
  rw [if_pos ⟨hj, by omega⟩] at h
  rw [← igetD_get p, h, ← igetD_get q]
  cases b <;> rfl
set_option maxHeartbeats 1000000 in
theorem fldSwap_ok (T : World) (H : Hp) (ba bb : Nat) (hne : ba ≠ bb) (b : Bool) (xs ys : List Int) (ha : xs.length = 16) (hb : ys.length = 16) (wa : InK 1073741824 xs) (wb : InK 1073741824 ys)
    (H0 : H[ba]? = some (fldC xs)) (H1 : H[bb]? = some (fldC ys)) :
    CallsH Try.prog T 39 #[.pointer (some ⟨ba, 0, none⟩), .pointer (some ⟨bb, 0, none⟩), .int .i64 (if b then 1 else 0)] H fun v' h' => h' = (H.setIfInBounds ba (fldC (if b then ys else xs))).setIfInBounds bb (fldC (if b then xs else ys)) := by
  refine CallsH.of_code' (args := [_, _, _]) Try.func39 rfl rfl rfl rfl ?_
  rw [← fsw_all ha hb, ← fsw_all hb ha]
  obtain ⟨so, hso⟩ : ∃ so : Int, so = if b then 1 else 0 := ⟨_, rfl⟩
  have hs1 : so = 0 ∨ so = 1 := by cases b <;> simp [hso]
  have hsm : ∀ x y, bitOp .and .i64 (-so) (bitOp .xor .i64 x y) = swm b x y := fun x y => by rw [hso]; rfl
  rw [← hso]
  clear hso
  simp (config := {maxSteps := 2000000, implicitDefEqProofs := false}) only [go_sem, ↓reduceIte, Nat.reduceEqDiff, Nat.reduceAdd, Nat.reduceMul, Nat.reduceLeDiff, Nat.reduceLT, Nat.reduceSub, IntWalk.iteOmega, IntWalk.toNatUp, reduceCtorEq, false_and, and_false, false_or, or_false, true_or, or_true, not_true_eq_false, not_false_eq_true, Bool.not_true, Bool.not_false, Bool.and_true, Bool.true_and, Bool.and_false, Bool.false_and, Bool.not_eq_true, beq_self_eq_true, Nat.add_zero, Int.reduceLE, Int.reduceLT, Int.reduceToNat, Int.reduceNeg]
  refine VS.loop' (fun F g => F 0 = .pointer (some ⟨ba, 0, none⟩) ∧ F 1 = .pointer (some ⟨bb, 0, none⟩) ∧ F 2 = .int .i64 so ∧ ∃ i : Nat, i ≤ 16 ∧ F 8 = .int .i64 i ∧ g = (H.setIfInBounds ba (fldC (fpl (fsw b) xs ys i))).setIfInBounds bb (fldC (fpl (fsw b) ys xs i)))
    (fun F _ => 16 - (vi (F 8)).toNat) rfl ⟨rfl, rfl, rfl, 0, by omega, rfl, ?_⟩ ?_
  · have e1 : fpl (fsw b) xs ys 0 = xs := rfl
    have e2 : fpl (fsw b) ys xs 0 = ys := rfl
    rw [e1, e2, set_same H0, set_same H1]
  rintro F g ⟨f0, f1, f2, i, hi, f8, rfl⟩
  have hx0 := cells_new (o := fldC (fpl (fsw b) xs ys i)) H0
  have hy0 : (H.setIfInBounds ba (fldC (fpl (fsw b) xs ys i)))[bb]? = some (fldC ys) := by rw [Array.getElem?_setIfInBounds, if_neg (by omega)]; exact H1
  have hy := cells_new (o := fldC (fpl (fsw b) ys xs i)) hy0
  have hx : ((H.setIfInBounds ba (fldC (fpl (fsw b) xs ys i))).setIfInBounds bb (fldC (fpl (fsw b) ys xs i)))[ba]? = some (fldC (fpl (fsw b) xs ys i)) := by rw [Array.getElem?_setIfInBounds, if_neg (by omega)]; exact hx0
  have lx := fpl_length (fsw b) xs ys i
  have ly := fpl_length (fsw b) ys xs i
  by_cases hlt : i < 16
  · have hlt' : (i : Int) < 16 := by omega
    have hn1 : fpl (fsw b) xs ys (i + 1) = (fpl (fsw b) xs ys i).set i (fsw b ((fpl (fsw b) xs ys i).getD i 0) (ys.getD i 0)) := rfl
    have hn2 : fpl (fsw b) ys xs (i + 1) = (fpl (fsw b) ys xs i).set i (fsw b ((fpl (fsw b) ys xs i).getD i 0) (xs.getD i 0)) := rfl
    have b1 := wa.getD (by omega) i
    have b2 := wb.getD (by omega) i
    have ex : (fpl (fsw b) xs ys i).getD i 0 = xs.getD i 0 := by rw [fpl_at, if_neg (by omega)]
    have ey : (fpl (fsw b) ys xs i).getD i 0 = ys.getD i 0 := by rw [fpl_at, if_neg (by omega)]
    rw [ex] at hn1
    rw [ey] at hn2
    obtain ⟨p, hp⟩ : ∃ p, p = fpl (fsw b) xs ys i := ⟨_, rfl⟩
    obtain ⟨q, hq⟩ : ∃ q, q = fpl (fsw b) ys xs i := ⟨_, rfl⟩
    rw [← hp] at hn1 hx hy lx ex ⊢
    rw [← hq] at hn2 hx hy ly ey ⊢
    have g1 := icells_get hx (i := i) (by omega)
    have g2 := icells_get hy (i := i) (by omega)
    rw [ex] at g1
    rw [ey] at g2
    clear ex ey
    obtain ⟨x, hxx⟩ : ∃ x, x = xs.getD i 0 := ⟨_, rfl⟩
    obtain ⟨y, hyy⟩ : ∃ y, y = ys.getD i 0 := ⟨_, rfl⟩
    rw [← hxx] at g1 b1 hn1 hn2
    rw [← hyy] at g2 b2 hn1 hn2
    have s1 := swm_one (b := b) (x := x) (y := y) (by omega) (by omega) (by omega) (by omega)
    have s2 := swm_two (b := b) (x := x) (y := y) (by omega) (by omega) (by omega) (by omega)
    have s0 := hsm x y
    clear hxx hyy hp hq
    obtain ⟨m, hm⟩ : ∃ m, m = swm b x y := ⟨_, rfl⟩
    rw [← hm] at s0 s1 s2
    rw [← s1] at hn1
    rw [← s2] at hn2
    have hsn : -so = 0 - so := by omega
    rw [hsn] at s0
    have c1 : ∀ G : Hp, G[ba]? = some (fldC p) → wr1 G ⟨ba, i, none⟩ (.int .i64 (bitOp .xor .i64 x m)) = some (G.setIfInBounds ba (fldC (p.set i (bitOp .xor .i64 x m)))) := fun G hx => icells_set hx (i := i) (by omega) _
    have c2 : ∀ G : Hp, G[bb]? = some (fldC q) → wr1 G ⟨bb, i, none⟩ (.int .i64 (bitOp .xor .i64 y m)) = some (G.setIfInBounds bb (fldC (q.set i (bitOp .xor .i64 y m)))) := fun G hx => icells_set hx (i := i) (by omega) _
    obtain ⟨G, hG⟩ : ∃ G, G = (H.setIfInBounds ba (fldC p)).setIfInBounds bb (fldC q) := ⟨_, rfl⟩
    rw [← hG] at hx hy g1 g2 ⊢
    simp (config := {maxSteps := 2000000, implicitDefEqProofs := false}) only [go_sem, ↓reduceIte, Nat.reduceEqDiff, Nat.reduceAdd, Nat.reduceMul, Nat.reduceLeDiff, Nat.reduceLT, Nat.reduceSub, IntWalk.iteOmega, IntWalk.toNatUp, reduceCtorEq, false_and, and_false, false_or, or_false, true_or, or_true, not_true_eq_false, not_false_eq_true, Bool.not_true, Bool.not_false, Bool.and_true, Bool.true_and, Bool.and_false, Bool.false_and, Bool.not_eq_true, beq_self_eq_true, Nat.add_zero, Int.reduceLE, Int.reduceLT, Int.reduceToNat, Int.reduceNeg, f0, f1, f2, f8, hlt', Int.toNat_natCast]
    refine VS.w (ba + bb + 1) [] (.q 0 (.q 1 (.q 2 (.q 3 (.q 4 (.q 5 (.q 6 (.q 7 (.q 8 (.q 9 (.q 10 (.q 11 (.q 12 (.q 13 (.q 14 .nil))))))))))))))) mixed (by kernel_rfl) ?_
    simp (config := {maxSteps := 2000000, implicitDefEqProofs := false}) only [go_sem, ↓reduceIte, Nat.reduceEqDiff, Nat.reduceAdd, Nat.reduceMul, Nat.reduceLeDiff, Nat.reduceLT, Nat.reduceSub, IntWalk.iteOmega, IntWalk.toNatUp, reduceCtorEq, false_and, and_false, false_or, or_false, true_or, or_true, not_true_eq_false, not_false_eq_true, Bool.not_true, Bool.not_false, Bool.and_true, Bool.true_and, Bool.and_false, Bool.false_and, Bool.not_eq_true, beq_self_eq_true, Nat.add_zero, Int.reduceLE, Int.reduceLT, Int.reduceToNat, Int.reduceNeg, f0, f1, f2, f8, hlt', Int.toNat_natCast, Nat.zero_add, g1, g2, s0]
    refine VS.w (ba + bb + 1) [9] (.q 0 (.q 1 (.q 2 (.q 3 (.q 4 (.q 5 (.q 6 (.q 7 (.q 8 (.w 9 .nil)))))))))) mixed (by kernel_rfl) ?_
    have c1' := c1 G hx
    obtain ⟨p', hp'⟩ : ∃ p', p' = p.set i (bitOp .xor .i64 x m) := ⟨_, rfl⟩
    rw [← hp'] at hn1 c1'
    obtain ⟨G', hG'⟩ : ∃ G', G' = G.setIfInBounds ba (fldC p') := ⟨_, rfl⟩
    rw [← hG'] at c1'
    have hy' : G'[bb]? = some (fldC q) := by rw [hG', Array.getElem?_setIfInBounds, if_neg (by omega)]; exact hy
    simp (config := {maxSteps := 2000000, implicitDefEqProofs := false}) only [go_sem, ↓reduceIte, Nat.reduceEqDiff, Nat.reduceAdd, Nat.reduceMul, Nat.reduceLeDiff, Nat.reduceLT, Nat.reduceSub, IntWalk.iteOmega, IntWalk.toNatUp, reduceCtorEq, false_and, and_false, false_or, or_false, true_or, or_true, not_true_eq_false, not_false_eq_true, Bool.not_true, Bool.not_false, Bool.and_true, Bool.true_and, Bool.and_false, Bool.false_and, Bool.not_eq_true, beq_self_eq_true, Nat.add_zero, Int.reduceLE, Int.reduceLT, Int.reduceToNat, Int.reduceNeg, f0, f1, f2, f8, hlt', Int.toNat_natCast, Nat.zero_add, g1, c1']
    refine VS.w (ba + bb + 1) [9] (.q 0 (.q 1 (.q 2 (.q 3 (.q 4 (.q 5 (.q 6 (.q 7 (.q 8 (.w 9 .nil)))))))))) mixed (by kernel_rfl) ?_
    have g2' := icells_get hy' (i := i) (by omega)
    have eq : q.getD i 0 = y := by have := g2; rw [icells_get hy (i := i) (by omega)] at this; simpa using this
    rw [eq] at g2'
    have c2' := c2 G' hy'
    simp (config := {maxSteps := 2000000, implicitDefEqProofs := false}) only [go_sem, ↓reduceIte, Nat.reduceEqDiff, Nat.reduceAdd, Nat.reduceMul, Nat.reduceLeDiff, Nat.reduceLT, Nat.reduceSub, IntWalk.iteOmega, IntWalk.toNatUp, reduceCtorEq, false_and, and_false, false_or, or_false, true_or, or_true, not_true_eq_false, not_false_eq_true, Bool.not_true, Bool.not_false, Bool.and_true, Bool.true_and, Bool.and_false, Bool.false_and, Bool.not_eq_true, beq_self_eq_true, Nat.add_zero, Int.reduceLE, Int.reduceLT, Int.reduceToNat, Int.reduceNeg, f0, f1, f2, f8, hlt', Int.toNat_natCast, Nat.zero_add, g2', c2']
    refine ⟨⟨f0, f1, f2, i + 1, hlt, rfl, ?_⟩, ?_⟩
    · rw [hn1, hn2, hG', hG]
      rw [Array.setIfInBounds_comm (xs := H.setIfInBounds ba (fldC p)) (i := bb) (j := ba) _ _ hne.symm, set_set, set_set]
    · simp only [vi, updo_some, ↓reduceIte, f8]; omega
  · have hge : ¬ (i : Int) < 16 := by omega
    obtain rfl : i = 16 := by omega
    have c16 : ((16 : Nat) : Int) = 16 := rfl
    rw [c16] at f8 hge
    simp (config := {maxSteps := 2000000, implicitDefEqProofs := false}) only [go_sem, ↓reduceIte, Nat.reduceEqDiff, Nat.reduceAdd, Nat.reduceMul, Nat.reduceLeDiff, Nat.reduceLT, Nat.reduceSub, IntWalk.iteOmega, IntWalk.toNatUp, reduceCtorEq, false_and, and_false, false_or, or_false, true_or, or_true, not_true_eq_false, not_false_eq_true, Bool.not_true, Bool.not_false, Bool.and_true, Bool.true_and, Bool.and_false, Bool.false_and, Bool.not_eq_true, beq_self_eq_true, Nat.add_zero, Int.reduceLE, Int.reduceLT, Int.reduceToNat, Int.reduceNeg, f0, f1, f2, f8, hge]
end Go.Proofs.Ytiakfdpmapmifaa
