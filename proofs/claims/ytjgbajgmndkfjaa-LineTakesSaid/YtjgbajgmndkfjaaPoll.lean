/- The program's clamped key, its blocks' numbers and its last bytes, in plain numbers; no condition but those in the statements. -/
import Derived.Test.YtjgbajgmndkfjaaLimw
import Derived.Test.YtjgbajgmndkfjaaTago
import Derived.Test.YtjgbajgmndkfjaaW14
namespace Go.Proofs.Ytjgbajgmndkfjaa
open Go Go.V
set_option linter.unusedSimpArgs false
set_option linter.unusedVariables false
set_option maxRecDepth 100000
def clA (l : List Nat) : Nat → List Nat
  | 0 => l
  | i + 1 => (clA l i).set (4 * i + 3) ((clA l i).getD (4 * i + 3) 0 % 16)
def clB (l : List Nat) : Nat → List Nat
  | 0 => l
  | i + 1 => (clB l i).set (4 * i + 4) ((clB l i).getD (4 * i + 4) 0 / 4 * 4)
theorem clA_length (l : List Nat) : ∀ i, (clA l i).length = l.length
  | 0 => rfl
  | i + 1 => by rw [clA, List.length_set, clA_length l i]
theorem clB_length (l : List Nat) : ∀ i, (clB l i).length = l.length
  | 0 => rfl
  | i + 1 => by rw [clB, List.length_set, clB_length l i]
theorem clA_dg {l : List Nat} (w : Dg l) : ∀ i, Dg (clA l i)
  | 0 => w
  | i + 1 => (clA_dg w i).set _ (by have := (clA_dg w i).getD (4 * i + 3); omega)
theorem clB_dg {l : List Nat} (w : Dg l) : ∀ i, Dg (clB l i)
  | 0 => w
  | i + 1 => (clB_dg w i).set _ (by have := (clB_dg w i).getD (4 * i + 4); omega)
theorem clamp16 {l : List Nat} (hl : l.length = 16) : clB (clA l 4) 3 = clampL l := by
  match l, hl with
  | [a0, a1, a2, a3, a4, a5, a6, a7, a8, a9, a10, a11, a12, a13, a14, a15], _ => rfl
theorem clampL_take (key : List Nat) : clampL key = clampL (key.take 16) := by
  unfold clampL
  apply List.map_congr_left
  intro i hi
  have hi' : i < 16 := by simpa using hi
  have e : (key.take 16).getD i 0 = key.getD i 0 := by
    rw [List.getD_eq_getElem?_getD, List.getElem?_take, if_pos hi', List.getD_eq_getElem?_getD]
  unfold clampD
  rw [e]
theorem clamp_law {key : List Nat} (hk : key.length = 32) : clB (clA (key.take 16) 4) 3 = clampL key := by
  rw [clampL_take]; exact clamp16 (by rw [List.length_take]; omega)
theorem valD_lt16 {l : List Nat} (w : Dg l) (hl : l.length = 16) : valD l < 340282366920938463463374607431768211456 := by
  have := valD_lt_of w (n := 16) (by omega)
  exact this
theorem numL_length (n t : Nat) : (numL n t).length = 5 := rfl
theorem numL_lt {n t : Nat} (hn : n < 340282366920938463463374607431768211456) (ht : t ≤ 1) : LtAll 67108864 (numL n t) :=
  LtAll.five (by omega) (by omega) (by omega) (by omega) (by omega)
theorem numL_val {n t : Nat} (hn : n < 340282366920938463463374607431768211456) : val26 (numL n t) = n + 340282366920938463463374607431768211456 * t := by
  simp only [numL, val26]; omega
def addN (a x : List Nat) : Nat → List Nat
  | 0 => a
  | i + 1 => (addN a x i).set i ((addN a x i).getD i 0 + x.getD i 0)
theorem addN_length (a x : List Nat) : ∀ i, (addN a x i).length = a.length
  | 0 => rfl
  | i + 1 => by rw [addN, List.length_set, addN_length a x i]
theorem addN_lt {a x : List Nat} {K L : Nat} (wa : LtAll K a) (wx : LtAll L x) (hK : 0 < K) (hL : 0 < L) : ∀ i, LtAll (K + i * L) (addN a x i)
  | 0 => by rw [Nat.zero_mul]; exact wa
  | i + 1 => by
    have h := addN_lt wa wx hK hL i
    have q1 := h.getD (by omega) i
    have q2 := wx.getD hL i
    rw [addN, Nat.add_mul, Nat.one_mul]
    exact (h.mono (by omega)).set _ _ (by omega)
theorem addN_law {a x : List Nat} (ha : a.length = 5) (hx : x.length = 5) (wa : LtAll 134217728 a) (wx : LtAll 67108864 x) : LtAll 268435456 (addN a x 5) ∧ val26 (addN a x 5) = val26 a + val26 x := by
  obtain ⟨a0, a1, a2, a3, a4, rfl⟩ := five ha
  obtain ⟨x0, x1, x2, x3, x4, rfl⟩ := five hx
  obtain ⟨w0, w1, w2, w3, w4⟩ := wa.all5
  obtain ⟨u0, u1, u2, u3, u4⟩ := wx.all5
  have e : addN [a0, a1, a2, a3, a4] [x0, x1, x2, x3, x4] 5 = [a0 + x0, a1 + x1, a2 + x2, a3 + x3, a4 + x4] := rfl
  rw [e]
  exact ⟨LtAll.five (by omega) (by omega) (by omega) (by omega) (by omega), by simp only [val26]; omega⟩
theorem valD_app (a b : List Nat) : valD (a ++ b) = valD a + 256 ^ a.length * valD b := by
  induction a with
  | nil => simp [valD]
  | cons x a ih => simp only [List.cons_append, valD, ih, List.length_cons, Nat.pow_succ, Nat.mul_add, Nat.add_assoc]; congr 2; rw [← Nat.mul_assoc, Nat.mul_comm 256]
theorem valD_zeros (n : Nat) : valD (List.replicate n 0) = 0 := by
  induction n with
  | zero => rfl
  | succ n ih => rw [List.replicate_succ, valD, ih]
/-- A block's bytes, a 1 behind them, noughts behind that: seventeen. -/
def blk17 (l : List Nat) : List Nat := l ++ [1] ++ List.replicate (16 - l.length) 0
theorem blk17_length {l : List Nat} (hl : l.length ≤ 16) : (blk17 l).length = 17 := by simp [blk17]; omega
theorem blk17_val {l : List Nat} (hl : l.length ≤ 16) : valD ((blk17 l).take 16) + 340282366920938463463374607431768211456 * (blk17 l).getD 16 0 = valD (l ++ [1]) := by
  by_cases h : l.length = 16
  · have e1 : (blk17 l).take 16 = l := by unfold blk17; rw [List.append_assoc, List.take_left' h]
    have e2 : (blk17 l).getD 16 0 = 1 := by
      unfold blk17
      rw [List.getD_eq_getElem?_getD, List.append_assoc, List.getElem?_append_right (by omega), h]; rfl
    rw [e1, e2, valD_app, h]; rfl
  · have e2 : (blk17 l).getD 16 0 = 0 := by
      unfold blk17
      rw [List.getD_eq_getElem?_getD, List.getElem?_append_right (by simp; omega), List.getElem?_replicate]
      split <;> rfl
    have e1 : (blk17 l).take 16 = (l ++ [1]) ++ List.replicate (15 - l.length) 0 := by
      unfold blk17
      rw [List.take_append, List.take_of_length_le (by simp; omega), List.take_replicate]
      congr 2
      simp; omega
    rw [e1, e2, valD_app, valD_zeros]; omega
theorem blk17_top {l : List Nat} (hl : l.length ≤ 16) : (blk17 l).getD 16 0 ≤ 1 := by
  by_cases h : l.length = 16
  · have e2 : (blk17 l).getD 16 0 = 1 := by
      unfold blk17
      rw [List.getD_eq_getElem?_getD, List.append_assoc, List.getElem?_append_right (by omega), h]; rfl
    omega
  · have e2 : (blk17 l).getD 16 0 = 0 := by
      unfold blk17
      rw [List.getD_eq_getElem?_getD, List.getElem?_append_right (by simp; omega), List.getElem?_replicate]
      split <;> rfl
    omega
theorem blk17_dg {l : List Nat} (w : Dg l) : Dg (blk17 l) := by
  intro x hx
  unfold blk17 at hx
  simp only [List.mem_append, List.mem_singleton, List.mem_replicate] at hx
  rcases hx with (h | h) | h
  · exact w x h
  · omega
  · omega
theorem blk17_set {l : List Nat} (hl : l.length ≤ 16) : (l ++ List.replicate (17 - l.length) 0).set l.length 1 = blk17 l := by
  have e : List.replicate (17 - l.length) 0 = 0 :: List.replicate (16 - l.length) 0 := by rw [← List.replicate_succ]; congr 1; omega
  rw [e, List.set_append_right _ _ (Nat.le_refl _), Nat.sub_self, List.set_cons_zero]
  unfold blk17; rw [List.append_assoc]; rfl
def restV : List Nat → List Nat → Nat
  | x :: l, y :: k => (x + y) + 67108864 * restV l k
  | _, _ => 0
theorem restV_eq : ∀ (l k : List Nat), l.length = k.length → restV l k = val26 l + val26 k
  | [], [], _ => rfl
  | x :: l, y :: k, h => by simp only [restV, val26]; rw [restV_eq l k (by simpa using h)]; omega
/-- The end of it: sixteen bytes are the number's lowest ones. -/
theorem tag_bytes {out : List Nat} {t R : Nat} (w : Dg out) (hl : out.length = 16) (h : t = valD out + 256 ^ 16 * R) : out = (List.range 16).map fun i => t / 256 ^ i % 256 := by
  apply List.ext_getElem?
  intro i
  by_cases hi : i < 16
  · rw [List.getElem?_map, List.getElem?_range hi]
    have e := valD_digit w i
    rw [List.getD_eq_getElem?_getD, List.getElem?_eq_getElem (by omega)] at e
    rw [List.getElem?_eq_getElem (by omega)]
    simp only [Option.map_some, Option.some.injEq]
    simp only [Option.getD_some] at e
    rw [e, h]
    have e2 : 256 ^ 16 * R = 256 ^ i * (256 * (256 ^ (15 - i) * R)) := by
      rw [← Nat.mul_assoc 256, ← Nat.mul_assoc, ← Nat.pow_succ', ← Nat.pow_add]
      congr 2; omega
    rw [e2, Nat.add_mul_div_left _ _ (Nat.pow_pos (by omega)), Nat.add_mul_mod_self_left]
  · rw [List.getElem?_eq_none (by omega), List.getElem?_eq_none (by simp; omega)]
theorem emit_law {T v n s B R : Nat} (hB : 256 ≤ B) (hd : B % 256 = 0) (h : T = v + n * (s + B * R)) : T = v + n * (s % 256) + n * 256 * (s / 256 + B / 256 * R) := by
  have e : s + B * R = s % 256 + 256 * (s / 256 + B / 256 * R) := by
    have e1 : B = 256 * (B / 256) := by omega
    have e2 : B * R = 256 * (B / 256 * R) := by rw [← Nat.mul_assoc, ← e1]
    have e3 := Nat.mod_add_div s 256
    rw [Nat.mul_add, e2]; omega
  rw [h, e, Nat.mul_add, ← Nat.mul_assoc, ← Nat.add_assoc]
end Go.Proofs.Ytjgbajgmndkfjaa
