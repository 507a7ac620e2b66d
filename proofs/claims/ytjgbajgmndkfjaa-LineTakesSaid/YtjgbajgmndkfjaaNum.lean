/- The program's number of sixteen bytes, in limbs of 26 bits; no condition but those in the statements. -/
import Derived.Test.YtjgbajgmndkfjaaDig
namespace Go.Proofs.Ytjgbajgmndkfjaa
open Go Go.V
set_option linter.unusedSimpArgs false
set_option linter.unusedVariables false
set_option maxRecDepth 100000
def uv (x : Nat) : Value := .int .u64 (x : Nat)
def W26 : Nat := 67108864
def numL (n top : Nat) : List Nat := [n % 67108864, n / 67108864 % 67108864, n / 4503599627370496 % 67108864, n / 302231454903657293676544 % 67108864, n / 20282409603651670423947251286016 + top * 16777216]
theorem shl_u64 (x n : Nat) (hn : n ≤ 64) : shlOp .u64 (x : Int) (n : Int) = ((x * 2 ^ n % 18446744073709551616 : Nat) : Int) := by
  rw [shl_nat .u64 x n (by show n ≤ 64; omega), wrap_u64_mod]; rfl
theorem shr_u64 (x n : Nat) (hn : n ≤ 64) : shrOp .u64 (x : Int) (n : Int) = ((x / 2 ^ n : Nat) : Int) := by
  rw [shr_nat .u64 x n (by show n ≤ 64; omega), Nat.shiftRight_eq_div_pow]
theorem mask26 (x : Nat) (hx : x < 18446744073709551616) : bitOp .and .u64 (x : Int) 67108863 = ((x % 67108864 : Nat) : Int) := by
  have h := and_u64 x 67108863 hx (by decide)
  have e : x &&& 67108863 = x % 67108864 := Nat.and_two_pow_sub_one_eq_mod x 26
  rw [e] at h
  exact h
theorem byte_in (L b : Nat) (hL : L < 72057594037927936) (hb : b < 256) : bitOp .or .u64 ((L * 256 : Nat) : Int) (b : Int) = ((L * 256 + b : Nat) : Int) := by
  rw [or_u64 _ _ (by omega) (by omega), or_add (k := 8) (by omega) (by omega)]
theorem shl8 (L : Nat) (hL : L < 72057594037927936) : shlOp .u64 (L : Int) 8 = ((L * 256 : Nat) : Int) := by
  have h := shl_u64 L 8 (by decide)
  rw [show L * 2 ^ 8 % 18446744073709551616 = L * 256 by omega] at h
  exact h
theorem drop_val {l : List Nat} {m : Nat} (hm : m < l.length) : valD (l.drop m) = l.getD m 0 + 256 * valD (l.drop (m + 1)) := by
  rw [List.drop_eq_getElem_cons hm]
  have e : l.getD m 0 = l[m] := by rw [List.getD_eq_getElem?_getD, List.getElem?_eq_getElem hm]; rfl
  rw [e]; rfl
theorem Dg.drop {l : List Nat} (w : Dg l) (i : Nat) : Dg (l.drop i) := fun x hx => w x (List.mem_of_mem_drop hx)
theorem valD_lt_of {l : List Nat} (w : Dg l) {n : Nat} (hn : l.length ≤ n) : valD l < 256 ^ n := Nat.lt_of_lt_of_le (valD_lt w) (Nat.pow_le_pow_right (by omega) hn)
set_option maxHeartbeats 1000000 in
theorem number_ok (T : World) (h : Hp) (v : Value) (l : List Nat) (top : Nat) (s : Bs h v l) (hl : l.length = 16) (ht : top ≤ 1) :
    CallsH Try.prog T 141 #[v, .int .u64 top] h fun v' h' => v' = .agg ((numL (valD l) top).map uv).toArray ∧ Bel h.size h h' := by
  have wb := s.byte
  obtain ⟨p, c, rfl, hc⟩ := s.opend
  obtain ⟨bb, oo, rfl, hbb, hc⟩ := hc (by intro e; subst e; simp at hl)
  obtain ⟨lo, hi, rfl, hlo, hhi⟩ : ∃ lo hi : List Nat, l = lo ++ hi ∧ lo.length = 8 ∧ hi.length = 8 := ⟨l.take 8, l.drop 8, (List.take_append_drop 8 l).symm, by rw [List.length_take]; omega, by rw [List.length_drop]; omega⟩
  have wlo : Dg lo := fun x hx => wb x (List.mem_append_left _ hx)
  have whi : Dg hi := fun x hx => wb x (List.mem_append_right _ hx)
  refine CallsH.of_code' (args := [_, _]) Try.func141 rfl rfl rfl rfl ?_
  simp (config := {maxSteps := 2000000, implicitDefEqProofs := false}) only [go_sem, ↓reduceIte, Nat.reduceEqDiff, Nat.reduceAdd, Nat.reduceMul, Nat.reduceLeDiff, Nat.reduceLT, Nat.reduceSub, IntWalk.iteOmega, IntWalk.toNatUp, reduceCtorEq, false_and, and_false, false_or, or_false, true_or, or_true, not_true_eq_false, not_false_eq_true, Bool.not_true, Bool.not_false, Bool.and_true, Bool.true_and, Bool.and_false, Bool.false_and, Bool.not_eq_true, beq_self_eq_true, Nat.add_zero, Int.reduceLE, Int.reduceLT, Int.reduceToNat, Int.reduceNeg]
  obtain ⟨Z, hZ⟩ : ∃ Z : Obj, Z = .cells #[.int .u64 0, .int .u64 0, .int .u64 0, .int .u64 0, .int .u64 0] 165 := ⟨_, rfl⟩
  refine VS.loop' (fun F g => g = h.push (.cells #[.int .u64 0, .int .u64 0, .int .u64 0, .int .u64 0, .int .u64 0] 165) ∧ F 0 = .slice (some ⟨bb, oo, none⟩) (lo ++ hi).length c ∧ F 1 = .int .u64 top ∧ F 4 = .pointer (some ⟨h.size, 0, none⟩) ∧ ∃ j : Nat, j ≤ 8 ∧ F 7 = .int .i64 ((j : Int) - 1) ∧ F 5 = .int .u64 (valD (lo.drop j) : Nat) ∧ F 6 = .int .u64 (valD (hi.drop j) : Nat))
    (fun F _ => (vi (F 7) + 1).toNat) rfl ⟨rfl, rfl, rfl, rfl, 8, by omega, rfl, by rw [List.drop_of_length_le (by omega)]; rfl, by rw [List.drop_of_length_le (by omega)]; rfl⟩ ?_
  rintro F g ⟨rfl, f0, f1, f4, j, hj, f7, f5, f6⟩
  by_cases hlt : 0 < j
  · obtain ⟨m, rfl⟩ : ∃ m, j = m + 1 := ⟨j - 1, by omega⟩
    have e1 : ((m + 1 : Nat) : Int) - 1 = (m : Nat) := by omega
    rw [e1] at f7
    have g1 := hc m (by omega)
    have g2 := hc (8 + m) (by omega)
    have d1 : (lo ++ hi).getD m 0 = lo.getD m 0 := by rw [List.getD_eq_getElem?_getD, List.getElem?_append_left (by omega), List.getD_eq_getElem?_getD]
    have d2 : (lo ++ hi).getD (8 + m) 0 = hi.getD m 0 := by rw [List.getD_eq_getElem?_getD, List.getElem?_append_right (by omega), hlo, Nat.add_sub_cancel_left, List.getD_eq_getElem?_getD]
    rw [d1] at g1
    rw [d2] at g2
    have x1 := wlo.getD m
    have x2 := whi.getD m
    have n1 : valD (lo.drop m) = valD (lo.drop (m + 1)) * 256 + lo.getD m 0 := by rw [drop_val (l := lo) (by omega)]; omega
    have n2 : valD (hi.drop m) = valD (hi.drop (m + 1)) * 256 + hi.getD m 0 := by rw [drop_val (l := hi) (by omega)]; omega
    have b1 := valD_lt_of (wlo.drop (m + 1)) (n := 7) (by rw [List.length_drop]; omega)
    have b2 := valD_lt_of (whi.drop (m + 1)) (n := 7) (by rw [List.length_drop]; omega)
    rw [show 256 ^ 7 = 72057594037927936 from rfl] at b1 b2
    have s1 := shl8 _ b1
    have s2 := shl8 _ b2
    have o1 := byte_in _ _ b1 x1
    have o2 := byte_in _ _ b2 x2
    have em : (8 : Int) + (m : Int) = ((8 + m : Nat) : Int) := by omega
    have k1 : (m : Int) < (lo ++ hi).length := by omega
    have k2 : ((8 + m : Nat) : Int) < (lo ++ hi).length := by omega
    have k0 : (0 : Int) ≤ m := by omega
    have hbb' : bb < h.size := hbb
    have m1 : ((lo.getD m 0 : Nat) : Int) % 18446744073709551616 = (lo.getD m 0 : Nat) := by omega
    have m2 : ((hi.getD m 0 : Nat) : Int) % 18446744073709551616 = (hi.getD m 0 : Nat) := by omega
    simp (config := {maxSteps := 2000000, implicitDefEqProofs := false}) only [go_sem, ↓reduceIte, Nat.reduceEqDiff, Nat.reduceAdd, Nat.reduceMul, Nat.reduceLeDiff, Nat.reduceLT, Nat.reduceSub, IntWalk.iteOmega, IntWalk.toNatUp, reduceCtorEq, false_and, and_false, false_or, or_false, true_or, or_true, not_true_eq_false, not_false_eq_true, Bool.not_true, Bool.not_false, Bool.and_true, Bool.true_and, Bool.and_false, Bool.false_and, Bool.not_eq_true, beq_self_eq_true, Nat.add_zero, Int.reduceLE, Int.reduceLT, Int.reduceToNat, Int.reduceNeg, f0, f1, f4, f5, f6, f7, m1, m2, k0, k1, k2, em, Int.toNat_natCast, hbb', g1, g2, s1, s2, o1, o2]
    refine ⟨⟨rfl, f0, f1, f4, m, by omega, rfl, ?_, ?_⟩, ?_⟩
    · rw [n1]; rfl
    · rw [n2]; rfl
    · simp only [vi, updo_some, ↓reduceIte, f7]; omega
  · obtain rfl : j = 0 := by omega
    rw [List.drop_zero] at f5 f6
    have k0 : ¬ (0 : Int) ≤ ((0 : Nat) : Int) - 1 := by omega
    have b1 := valD_lt_of wlo (n := 8) (by omega)
    have b2 := valD_lt_of whi (n := 8) (by omega)
    rw [show 256 ^ 8 = 18446744073709551616 from rfl] at b1 b2
    have hval : valD (lo ++ hi) = valD lo + 18446744073709551616 * valD hi := by
      have : ∀ a b : List Nat, valD (a ++ b) = valD a + 256 ^ a.length * valD b := by
        intro a b
        induction a with
        | nil => simp [valD]
        | cons x a ih => simp only [List.cons_append, valD, ih, List.length_cons, Nat.pow_succ, Nat.mul_add, Nat.add_assoc]; congr 2; rw [← Nat.mul_assoc, Nat.mul_comm 256]
      rw [this, hlo]
    rw [hval]
    generalize valD lo = L at *
    generalize valD hi = M at *
    have q1 := mask26 L b1
    have q2 : shrOp .u64 (L : Int) 26 = ((L / 2 ^ 26 : Nat) : Int) := shr_u64 L 26 (by decide)
    have q3 := mask26 (L / 2 ^ 26) (by omega)
    have q4 : shrOp .u64 (L : Int) 52 = ((L / 2 ^ 52 : Nat) : Int) := shr_u64 L 52 (by decide)
    have q5 : shlOp .u64 (M : Int) 12 = ((M * 2 ^ 12 % 18446744073709551616 : Nat) : Int) := shl_u64 M 12 (by decide)
    have q6 := or_u64 (L / 2 ^ 52) (M * 2 ^ 12 % 18446744073709551616) (by omega) (by omega)
    rw [Nat.or_comm, or_add (k := 12) (by omega) (by omega)] at q6
    have q7 := mask26 (M * 2 ^ 12 % 18446744073709551616 + L / 2 ^ 52) (by omega)
    have q8 : shrOp .u64 (M : Int) 14 = ((M / 2 ^ 14 : Nat) : Int) := shr_u64 M 14 (by decide)
    have q9 := mask26 (M / 2 ^ 14) (by omega)
    have q10 : shrOp .u64 (M : Int) 40 = ((M / 2 ^ 40 : Nat) : Int) := shr_u64 M 40 (by decide)
    have q11 : shlOp .u64 (top : Int) 24 = ((top * 2 ^ 24 % 18446744073709551616 : Nat) : Int) := shl_u64 top 24 (by decide)
    have q12 := or_u64 (M / 2 ^ 40) (top * 2 ^ 24 % 18446744073709551616) (by omega) (by omega)
    rw [Nat.or_comm, or_add (k := 24) (by omega) (by omega)] at q12
    simp (config := {maxSteps := 2000000, implicitDefEqProofs := false}) only [go_sem, ↓reduceIte, Nat.reduceEqDiff, Nat.reduceAdd, Nat.reduceMul, Nat.reduceLeDiff, Nat.reduceLT, Nat.reduceSub, IntWalk.iteOmega, IntWalk.toNatUp, reduceCtorEq, false_and, and_false, false_or, or_false, true_or, or_true, not_true_eq_false, not_false_eq_true, Bool.not_true, Bool.not_false, Bool.and_true, Bool.true_and, Bool.and_false, Bool.false_and, Bool.not_eq_true, beq_self_eq_true, Nat.add_zero, Int.reduceLE, Int.reduceLT, Int.reduceToNat, Int.reduceNeg, f0, f1, f4, f5, f6, f7, k0, q1, q2, q3, q4, q5, q6, q7, q8, q9, q10, q11, q12]
    have w1 : L % 67108864 = (L + 18446744073709551616 * M) % 67108864 := by omega
    have w2 : L / 2 ^ 26 % 67108864 = (L + 18446744073709551616 * M) / 67108864 % 67108864 := by omega
    have w3 : (M * 2 ^ 12 % 18446744073709551616 + L / 2 ^ 52) % 67108864 = (L + 18446744073709551616 * M) / 4503599627370496 % 67108864 := by omega
    have w4 : M / 2 ^ 14 % 67108864 = (L + 18446744073709551616 * M) / 302231454903657293676544 % 67108864 := by omega
    have w5 : top * 2 ^ 24 % 18446744073709551616 + M / 2 ^ 40 = (L + 18446744073709551616 * M) / 20282409603651670423947251286016 + top * 16777216 := by omega
    rw [w1, w2, w3, w4, w5]
    rfl
end Go.Proofs.Ytjgbajgmndkfjaa
