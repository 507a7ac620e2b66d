/- Limbs of 26 bits: what the carry, the product and the last cut make of a number; no condition but those in the statements. -/
import Derived.Test.YtjgbajgmndkfjaaCarl
namespace Go.Proofs.Ytjgbajgmndkfjaa
open Go Go.V
set_option linter.unusedSimpArgs false
set_option linter.unusedVariables false
set_option maxRecDepth 100000
theorem five {l : List Nat} (h : l.length = 5) : ∃ a b c d e, l = [a, b, c, d, e] := by
  match l, h with
  | [a, b, c, d, e], _ => exact ⟨a, b, c, d, e, rfl⟩
def carryL (l : List Nat) : List Nat := ((carryN l 5).set 1 ((carryN l 5).getD 1 0 + (carryN l 5).getD 0 0 / 67108864)).set 0 ((carryN l 5).getD 0 0 % 67108864)
theorem LtAll.five {K a b c d e : Nat} (ha : a < K) (hb : b < K) (hc : c < K) (hd : d < K) (he : e < K) : LtAll K [a, b, c, d, e] := by
  intro x hx
  simp only [List.mem_cons, List.not_mem_nil, or_false] at hx
  rcases hx with rfl | rfl | rfl | rfl | rfl <;> assumption
theorem LtAll.all5 {K a b c d e : Nat} (w : LtAll K [a, b, c, d, e]) : a < K ∧ b < K ∧ c < K ∧ d < K ∧ e < K :=
  ⟨w a (by simp), w b (by simp), w c (by simp), w d (by simp), w e (by simp)⟩
theorem carry_law {l : List Nat} (hl : l.length = 5) (w : LtAll (2 ^ 61) l) : (carryL l).length = 5 ∧ LtAll 134217728 (carryL l) ∧ val26 (carryL l) % P130 = val26 l % P130 ∧ val26 (carryL l) < 4 * H16 + 2 ^ 44 := by
  obtain ⟨a, b, c, d, e, rfl⟩ := five hl
  obtain ⟨wa, wb, wc, wd, we⟩ := w.all5
  obtain ⟨q, r0, r1, r2, r3, r4, hc, hv, h1, h2, h3, h4, h0, hq⟩ := @carry_five a b c d e
  have hL : carryL [a, b, c, d, e] = [r0 % 67108864, r1 + r0 / 67108864, r2, r3, r4] := by unfold carryL; rw [hc]; rfl
  have hq' : q < 2 ^ 36 := by omega
  have hr : r0 / 67108864 < 8192 := by omega
  have hval : val26 [r0 % 67108864, r1 + r0 / 67108864, r2, r3, r4] = val26 [r0, r1, r2, r3, r4] := by simp only [val26]; omega
  rw [hL]
  refine ⟨rfl, LtAll.five (by omega) (by omega) (by omega) (by omega) (by omega), ?_, ?_⟩
  · rw [hval, hv, Nat.add_mul_mod_self_left]
  · rw [hval]
    have e16 : H16 = 340282366920938463463374607431768211456 := rfl
    rw [e16]
    have h0' : r0 < 549755813888 := by omega
    clear hv hc hq hq' hL hval h0
    simp only [val26]
    omega
def tstep (a b : Nat) (out : List Nat) (i k : Nat) : List Nat := if i + k < 5 then out.set (i + k) (out.getD (i + k) 0 + a * b) else out.set (i + k - 5) (out.getD (i + k - 5) 0 + 5 * a * b)
def trow (a : Nat) (bs out : List Nat) (i : Nat) : Nat → List Nat
  | 0 => out
  | k + 1 => tstep a (bs.getD k 0) (trow a bs out i k) i k
def tmat (xs bs : List Nat) : Nat → List Nat
  | 0 => [0, 0, 0, 0, 0]
  | i + 1 => trow (xs.getD i 0) bs (tmat xs bs i) i 5
theorem tstep_length (a b : Nat) (out : List Nat) (i k : Nat) : (tstep a b out i k).length = out.length := by unfold tstep; split <;> simp
theorem trow_length (a : Nat) (bs out : List Nat) (i : Nat) : ∀ k, (trow a bs out i k).length = out.length
  | 0 => rfl
  | k + 1 => by rw [trow, tstep_length, trow_length a bs out i k]
theorem tmat_length (xs bs : List Nat) : ∀ i, (tmat xs bs i).length = 5
  | 0 => rfl
  | i + 1 => by rw [tmat, trow_length, tmat_length xs bs i]
theorem mul_bound {a b : Nat} (ha : a < 268435456) (hb : b < 67108864) : a * b < 18014398509481984 :=
  Nat.lt_of_le_of_lt (Nat.mul_le_mul (Nat.le_of_lt_succ (show a < 268435455 + 1 from ha)) (Nat.le_of_lt_succ (show b < 67108863 + 1 from hb))) (by decide)
theorem mul_bound5 {a b : Nat} (ha : a < 268435456) (hb : b < 67108864) : 5 * a * b < 90071992547409920 := by
  have := mul_bound ha hb
  rw [Nat.mul_assoc]; omega
theorem tstep_lt {K a b : Nat} {out : List Nat} {i k : Nat} (w : LtAll K out) (hK : 0 < K) (ha : a < 268435456) (hb : b < 67108864) : LtAll (K + 90071992547409920) (tstep a b out i k) := by
  have h1 := mul_bound ha hb
  have h2 := mul_bound5 ha hb
  have q1 := w.getD hK (i + k)
  have q2 := w.getD hK (i + k - 5)
  unfold tstep
  split
  · exact (w.mono (by omega)).set _ _ (by omega)
  · exact (w.mono (by omega)).set _ _ (by omega)
theorem trow_lt {K a : Nat} {bs out : List Nat} {i : Nat} (w : LtAll K out) (hK : 0 < K) (ha : a < 268435456) (hb : LtAll 67108864 bs) : ∀ k, LtAll (K + k * 90071992547409920) (trow a bs out i k)
  | 0 => by rw [Nat.zero_mul]; exact w
  | k + 1 => by
    rw [trow, Nat.add_mul, Nat.one_mul, ← Nat.add_assoc]
    exact tstep_lt (trow_lt w hK ha hb k) (by omega) ha (hb.getD (by omega) k)
theorem tmat_lt {xs bs : List Nat} (ha : LtAll 268435456 xs) (hb : LtAll 67108864 bs) : ∀ i, LtAll (1 + i * 450359962737049600) (tmat xs bs i)
  | 0 => LtAll.five (by omega) (by omega) (by omega) (by omega) (by omega)
  | i + 1 => by
    rw [tmat]
    exact (trow_lt (tmat_lt ha hb i) (by omega) (ha.getD (by omega) i) hb 5).mono (by omega)
theorem val26_set : ∀ {l : List Nat} {i x : Nat}, i < l.length → val26 (l.set i (l.getD i 0 + x)) = val26 l + x * 67108864 ^ i
  | y :: l, 0, x, _ => by simp only [List.set_cons_zero, List.getD_cons_zero, val26, Nat.pow_zero, Nat.mul_one]; omega
  | y :: l, i + 1, x, h => by
    simp only [List.set_cons_succ, List.getD_cons_succ, val26]
    rw [val26_set (l := l) (i := i) (x := x) (by simpa using h), Nat.pow_succ, ← Nat.mul_assoc]
    omega
theorem X5 : 67108864 ^ 5 = P130 + 5 := rfl
theorem turn5 (v a b y P : Nat) : (v + 5 * a * b * y) % P = (v + a * b * (y * (P + 5))) % P := by
  have e : a * b * (y * (P + 5)) = 5 * a * b * y + P * (a * b * y) := by
    rw [Nat.mul_add, Nat.mul_add, Nat.add_comm]
    congr 1
    · rw [Nat.mul_comm y 5, ← Nat.mul_assoc, Nat.mul_comm (a * b) 5, ← Nat.mul_assoc 5 a b]
    · rw [Nat.mul_comm y P, ← Nat.mul_assoc, Nat.mul_comm (a * b) P, Nat.mul_assoc]
  rw [e, ← Nat.add_assoc, Nat.add_mul_mod_self_left]
theorem tstep_val {a b : Nat} {out : List Nat} {i k : Nat} (hl : out.length = 5) (hi : i < 5) (hk : k < 5) : val26 (tstep a b out i k) % P130 = (val26 out + a * b * 67108864 ^ (i + k)) % P130 := by
  unfold tstep
  split
  · rename_i h
    rw [val26_set (by omega)]
  · rename_i h
    rw [val26_set (by omega)]
    obtain ⟨j, hj⟩ : ∃ j, i + k = j + 5 := ⟨i + k - 5, by omega⟩
    rw [hj, Nat.add_sub_cancel, Nat.pow_add, X5]
    exact turn5 _ _ _ _ _
def pvn (bs : List Nat) : Nat → Nat
  | 0 => 0
  | k + 1 => pvn bs k + bs.getD k 0 * 67108864 ^ k
theorem pvn_five {bs : List Nat} (h : bs.length = 5) : pvn bs 5 = val26 bs := by
  obtain ⟨a, b, c, d, e, rfl⟩ := five h
  simp only [pvn, val26, List.getD_cons_zero, List.getD_cons_succ]
  omega
theorem trow_val {a : Nat} {bs out : List Nat} {i : Nat} (hl : out.length = 5) (hi : i < 5) : ∀ k, k ≤ 5 → val26 (trow a bs out i k) % P130 = (val26 out + a * 67108864 ^ i * pvn bs k) % P130
  | 0, _ => by rw [trow, pvn, Nat.mul_zero, Nat.add_zero]
  | k + 1, hk => by
    rw [trow, tstep_val (by rw [trow_length, hl]) hi (by omega), Nat.add_mod, trow_val hl hi k (by omega), ← Nat.add_mod, pvn, Nat.mul_add, ← Nat.add_assoc, Nat.pow_add]
    congr 2
    rw [Nat.mul_assoc, Nat.mul_assoc a]
    congr 1
    rw [← Nat.mul_assoc, Nat.mul_comm (bs.getD k 0), Nat.mul_assoc]
theorem tmat_val {xs bs : List Nat} (hb : bs.length = 5) : ∀ i, i ≤ 5 → val26 (tmat xs bs i) % P130 = (pvn xs i * val26 bs) % P130
  | 0, _ => by rw [pvn, Nat.zero_mul]; rfl
  | i + 1, hi => by
    rw [tmat, trow_val (tmat_length xs bs i) (by omega) 5 (by omega), Nat.add_mod, tmat_val hb i (by omega), ← Nat.add_mod, pvn_five hb, pvn, Nat.add_mul]
theorem times_law {xs bs : List Nat} (ha : xs.length = 5) (hb : bs.length = 5) (wa : LtAll 268435456 xs) (wb : LtAll 67108864 bs) :
    LtAll (2 ^ 61) (tmat xs bs 5) ∧ (tmat xs bs 5).length = 5 ∧ val26 (tmat xs bs 5) % P130 = val26 xs * val26 bs % P130 :=
  ⟨(tmat_lt wa wb 5).mono (by decide), tmat_length xs bs 5, by rw [tmat_val hb 5 (by omega), pvn_five ha]⟩
def ywh (m : List Nat) : Nat → List Nat
  | 0 => m.set 0 (m.getD 0 0 + 5)
  | i + 1 => ((ywh m i).set (i + 1) ((ywh m i).getD (i + 1) 0 + (ywh m i).getD i 0 / 67108864)).set i ((ywh m i).getD i 0 % 67108864)
theorem ywh_length (m : List Nat) : ∀ i, (ywh m i).length = m.length
  | 0 => by simp [ywh]
  | i + 1 => by rw [ywh, List.length_set, List.length_set, ywh_length m i]
theorem ywh_lt {m : List Nat} (w : LtAll 134217728 m) : ∀ i, i ≤ 10 → LtAll (134217728 + 6 + i * 8) (ywh m i)
  | 0, _ => (w.mono (by omega)).set _ _ (by have := w.getD (by omega) 0; omega)
  | i + 1, hi => by
    have h := ywh_lt w i (by omega)
    have q1 := h.getD (by omega) (i + 1)
    have q2 := h.getD (by omega) i
    rw [ywh]
    exact ((h.mono (by omega)).set _ _ (by omega)).set _ _ (by omega)
def wholeL (m : List Nat) : List Nat := if (ywh m 4).getD 4 0 / 67108864 = 0 then m else (ywh m 4).set 4 ((ywh m 4).getD 4 0 % 67108864)
theorem wl_a {A B C P : Nat} (h1 : A + 5 = B) (h2 : B = C) (h3 : C < P + 5) : A < P := by omega
theorem wl_b {A B C q : Nat} (h1 : A + 5 = B) (h2 : B = C + 1361129467683753853853498429727072845824 * q) (hv : A < 1361129467683753853853498429727072845824 + 2 ^ 44) (h0 : ¬ q = 0) : q = 1 := by omega
theorem wl_c {A B C P : Nat} (h1 : A + 5 = B) (h2 : B = C + (P + 5)) (hv : A < P + 5 + 2 ^ 44) (hP : 2 ^ 45 < P) : A = C + P * 1 ∧ C < P := by omega
theorem whole_law {m : List Nat} (hl : m.length = 5) (w : LtAll 134217728 m) (hv : val26 m < 4 * H16 + 2 ^ 44) : (wholeL m).length = 5 ∧ LtAll 134217728 (wholeL m) ∧ val26 (wholeL m) = val26 m % P130 := by
  obtain ⟨a, b, c, d, e, rfl⟩ := five hl
  obtain ⟨wa, wb, wc, wd, we⟩ := w.all5
  obtain ⟨t0, ht0⟩ : ∃ t, t = a + 5 := ⟨_, rfl⟩
  obtain ⟨t1, ht1⟩ : ∃ t, t = b + t0 / 67108864 := ⟨_, rfl⟩
  obtain ⟨t2, ht2⟩ : ∃ t, t = c + t1 / 67108864 := ⟨_, rfl⟩
  obtain ⟨t3, ht3⟩ : ∃ t, t = d + t2 / 67108864 := ⟨_, rfl⟩
  obtain ⟨t4, ht4⟩ : ∃ t, t = e + t3 / 67108864 := ⟨_, rfl⟩
  have hY : ywh [a, b, c, d, e] 4 = [t0 % 67108864, t1 % 67108864, t2 % 67108864, t3 % 67108864, t4] := by rw [ht4, ht3, ht2, ht1, ht0]; rfl
  have hW : wholeL [a, b, c, d, e] = if t4 / 67108864 = 0 then [a, b, c, d, e] else [t0 % 67108864, t1 % 67108864, t2 % 67108864, t3 % 67108864, t4 % 67108864] := by unfold wholeL; rw [hY]; rfl
  have e16 : H16 = 340282366920938463463374607431768211456 := rfl
  rw [hW]
  have hs : val26 [a, b, c, d, e] + 5 = val26 [t0 % 67108864, t1 % 67108864, t2 % 67108864, t3 % 67108864, t4] := by simp only [val26]; omega
  have hx : val26 [t0 % 67108864, t1 % 67108864, t2 % 67108864, t3 % 67108864, t4] = val26 [t0 % 67108864, t1 % 67108864, t2 % 67108864, t3 % 67108864, t4 % 67108864] + (P130 + 5) * (t4 / 67108864) := by rw [P130_eq]; simp only [val26]; omega
  have hb4 : val26 [t0 % 67108864, t1 % 67108864, t2 % 67108864, t3 % 67108864, t4 % 67108864] < P130 + 5 := by rw [P130_eq]; simp only [val26]; omega
  have hH : 4 * H16 = P130 + 5 := rfl
  rw [hH] at hv
  split
  · rename_i h0
    refine ⟨rfl, w, ?_⟩
    rw [h0, Nat.mul_zero, Nat.add_zero] at hx
    rw [Nat.mod_eq_of_lt (wl_a hs hx hb4)]
  · rename_i h0
    refine ⟨rfl, LtAll.five (by omega) (by omega) (by omega) (by omega) (by omega), ?_⟩
    have h1 : t4 / 67108864 = 1 := by
      rw [P130_eq] at hx hv
      exact wl_b hs hx hv h0
    rw [h1, Nat.mul_one] at hx
    obtain ⟨hk, hC⟩ := wl_c hs hx hv (by rw [P130_eq]; decide)
    rw [hk, Nat.add_mul_mod_self_left, Nat.mod_eq_of_lt hC]
end Go.Proofs.Ytjgbajgmndkfjaa
