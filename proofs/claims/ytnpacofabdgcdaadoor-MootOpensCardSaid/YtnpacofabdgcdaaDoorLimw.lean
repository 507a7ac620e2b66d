/- Limbs of 26 bits: what the carry, the product and the last cut make of a number; no condition but those in the statements. -/
import Derived.Test.YtnpacofabdgcdaaDoorCarl
namespace Go.Proofs.YtnpacofabdgcdaaDoor
open Go Go.V
set_option linter.unusedSimpArgs false
set_option linter.unusedVariables false
set_option maxRecDepth 100000
theorem five {l : List Nat} (h : l.length = 5) : ∃ a b c d e, l = [a, b, c, d, e] := by
  match l, h with
  | [a, b, c, d, e], _ => exact ⟨a, b, c, d, e, rfl⟩
def carryL (l : List Nat) : List Nat := ((carryN l 5).set 1 ((carryN l 5).getD 1 0 + (carryN l 5).getD 0 0 / 67108864)).set 0 ((carryN l 5).getD 0 0 % 67108864)
theorem LtAll.five {K a b c d e : Nat} (ha : a < K) (hb : b < K) (hc : c < K) (hd : d < K) (he : e < K) : LtAll K [a, b, c, d, e] := by
  intro x hx
  simp only [List.mem_cons, List.not_mem_nil, or_false] at hx
  rcases hx with rfl | rfl | rfl | rfl | rfl <;> assumption
theorem LtAll.all5 {K a b c d e : Nat} (w : LtAll K [a, b, c, d, e]) : a < K ∧ b < K ∧ c < K ∧ d < K ∧ e < K :=
  ⟨w a (by simp), w b (by simp), w c (by simp), w d (by simp), w e (by simp)⟩
theorem carry_law {l : List Nat} (hl : l.length = 5) (w : LtAll (2 ^ 61) l) : (carryL l).length = 5 ∧ LtAll 134217728 (carryL l) ∧ val26 (carryL l) % P130 = val26 l % P130 ∧ val26 (carryL l) < 4 * H16 + 2 ^ 44 := by
  obtain ⟨a, b, c, d, e, rfl⟩ := five hl
  obtain ⟨wa, wb, wc, wd, we⟩ := w.all5
  obtain ⟨q, r0, r1, r2, r3, r4, hc, hv, h1, h2, h3, h4, h0, hq⟩ := @carry_five a b c d e
  have hL : carryL [a, b, c, d, e] = [r0 % 67108864, r1 + r0 / 67108864, r2, r3, r4] := by unfold carryL; rw [hc]; rfl
  have hq' : q < 2 ^ 36 := by omega
  have hr : r0 / 67108864 < 8192 := by omega
  have hval : val26 [r0 % 67108864, r1 + r0 / 67108864, r2, r3, r4] = val26 [r0, r1, r2, r3, r4] := by simp only [val26]; omega
  rw [hL]
  refine ⟨rfl, LtAll.five (by omega) (by omega) (by omega) (by omega) (by omega), ?_, ?_⟩
  · rw [hval, hv, Nat.add_mul_mod_self_left]
  · rw [hval]
    have e16 : H16 = 340282366920938463463374607431768211456 := rfl
    rw [e16]
    have h0' : r0 < 549755813888 := by omega
    clear hv hc hq hq' hL hval h0
    simp only [val26]
    omega
def tstep (a b : Nat) (out : List Nat) (i k : Nat) : List Nat := if i + k < 5 then out.set (i + k) (out.getD (i + k) 0 + a * b) else out.set (i + k - 5) (out.getD (i + k - 5) 0 + 5 * a * b)
def trow (a : Nat) (bs out : List Nat) (i : Nat) : Nat → List Nat
  | 0 => out
  | k + 1 => tstep a (bs.getD k 0) (trow a bs out i k) i k
def tmat (xs bs : List Nat) : Nat → List Nat
  | 0 => [0, 0, 0, 0, 0]
  | i + 1 => trow (xs.getD i 0) bs (tmat xs bs i) i 5
theorem tstep_length (a b : Nat) (out : List Nat) (i k : Nat) : (tstep a b out i k).length = out.length := by unfold tstep; split <;> simp
theorem trow_length (a : Nat) (bs out : List Nat) (i : Nat) : ∀ k, (trow a bs out i k).length = out.length
  | 0 => rfl
  | k + 1 => by rw [trow, tstep_length, trow_length a bs out i k]
theorem tmat_length (xs bs : List Nat) : ∀ i, (tmat xs bs i).length = 5
  | 0 => rfl
  | i + 1 => by rw [tmat, trow_length, tmat_length xs bs i]
theorem mul_bound {a b : Nat} (ha : a < 268435456) (hb : b < 67108864) : a * b < 18014398509481984 :=
  Nat.lt_of_le_of_lt (Nat.mul_le_mul (Nat.le_of_lt_succ (show a < 268435455 + 1 from ha)) (Nat.le_of_lt_succ (show b < 67108863 + 1 from hb))) (by decide)
theorem mul_bound5 {a b : Nat} (ha : a < 268435456) (hb : b < 67108864) : 5 * a * b < 90071992547409920 := by
  have := mul_bound ha hb
  rw [Nat.mul_assoc]; omega
theorem tstep_lt {K a b : Nat} {out : List Nat} {i k : Nat} (w : LtAll K out) (hK : 0 < K) (ha : a < 268435456) (hb : b < 67108864) : LtAll (K + 90071992547409920) (tstep a b out i k) := by
  have h1 := mul_bound ha hb
  have h2 := mul_bound5 ha hb
  have q1 := w.getD hK (i + k)
  have q2 := w.getD hK (i + k - 5)
  unfold tstep
  split
  · exact (w.mono (by omega)).set _ _ (by omega)
  · exact (w.mono (by omega)).set _ _ (by omega)
theorem trow_lt {K a : Nat} {bs out : List Nat} {i : Nat} (w : LtAll K out) (hK : 0 < K) (ha : a < 268435456) (hb : LtAll 67108864 bs) : ∀ k, LtAll (K + k * 90071992547409920) (trow a bs out i k)
  | 0 => by rw [Nat.zero_mul]; exact w
  | k + 1 => by
    rw [trow, Nat.add_mul, Nat.one_mul, ← Nat.add_assoc]
    exact tstep_lt (trow_lt w hK ha hb k) (by omega) ha (hb.getD (by omega) k)
theorem tmat_lt {xs bs : List Nat} (ha : LtAll 268435456 xs) (hb : LtAll 67108864 bs) : ∀ i, LtAll (1 + i * 450359962737049600) (tmat xs bs i)
  | 0 => LtAll.five (by omega) (by omega) (by omega) (by omega) (by omega)
  | i + 1 => by
    rw [tmat]
    exact (trow_lt (tmat_lt ha hb i) (by omega) (ha.getD (by omega) i) hb 5).mono (by omega)
theorem val26_set : ∀ {l : List Nat} {i x : Nat}, i < l.length → val26 (l.set i (l.getD i 0 + x)) = val26 l + x * 67108864 ^ i
  | y :: l, 0, x, _ => by simp only [List.set_cons_zero, List.getD_cons_zero, val26, Nat.pow_zero, Nat.mul_one]; omega
  | y :: l, i + 1, x, h => by
    simp only [List.set_cons_succ, List.getD_cons_succ, val26]
    rw [val26_set (l := l) (i := i) (x := x) (by simpa using h), Nat.pow_succ, ← Nat.mul_assoc]
    omega
theorem X5 : 67108864 ^ 5 = P130 + 5 := rfl
theorem turn5 (v a b y P : Nat) : (v + 5 * a * b * y) % P = (v + a * b * (y * (P + 5))) % P := by
  have e : a * b * (y * (P + 5)) = 5 * a * b * y + P * (a * b * y) := by
    rw [Nat.mul_add, Nat.mul_add, Nat.add_comm]
    congr 1
    · rw [Nat.mul_comm y 5, ← Nat.mul_assoc, Nat.mul_comm (a * b) 5, ← Nat.mul_assoc 5 a b]
    · rw [Nat.mul_comm y P, ← Nat.mul_assoc, Nat.mul_comm (a * b) P, Nat.mul_assoc]
  rw [e, ← Nat.add_assoc, Nat.add_mul_mod_self_left]
theorem tstep_val {a b : Nat} {out : List Nat} {i k : Nat} (hl : out.length = 5) (hi : i < 5) (hk : k < 5) : val26 (tstep a b out i k) % P130 = (val26 out + a * b * 67108864 ^ (i + k)) % P130 := by
  unfold tstep
  split
  · rename_i h
    rw [val26_set (by omega)]
  · rename_i h
    rw [val26_set (by omega)]
    obtain ⟨j, hj⟩ : ∃ j, i + k = j + 5 := ⟨i + k - 5, by omega⟩
    rw [hj, Nat.add_sub_cancel, Nat.pow_add, X5]
    exact turn5 _ _ _ _ _
def pvn (bs : List Nat) : Nat → Nat
  | 0 => 0
  | k + 1 => pvn bs k + bs.getD k 0 * 67108864 ^ k
theorem pvn_five {bs : List Nat} (h : bs.length = 5) : pvn bs 5 = val26 bs := by
  obtain ⟨a, b, c, d, e, rfl⟩ := five h
  simp only [pvn, val26, List.getD_cons_zero, List.getD_cons_succ]
  omega
theorem trow_val {a : Nat} {bs out : List Nat} {i : Nat} (hl : out.length = 5) (hi : i < 5) : ∀ k, k ≤ 5 → val26 (trow a bs out i k) % P130 = (val26 out + a * 67108864 ^ i * pvn bs k) % P130
  | 0, _ => by rw [trow, pvn, Nat.mul_zero, Nat.add_zero]
  | k + 1, hk => by
    rw [trow, tstep_val (by rw [trow_length, hl]) hi (by omega), Nat.add_mod, trow_val hl hi k (by omega), ← Nat.add_mod, pvn, Nat.mul_add, ← Nat.add_assoc, Nat.pow_add]
    congr 2
    rw [Nat.mul_assoc, Nat.mul_assoc a]
    congr 1
    rw [← Nat.mul_assoc, Nat.mul_comm (bs.getD k 0), Nat.mul_assoc]
theorem tmat_val {xs bs : List Nat} (hb : bs.length = 5) : ∀ i, i ≤ 5 → val26 (tmat xs bs i) % P130 = (pvn xs i * val26 bs) % P130
  | 0, _ => by rw [pvn, Nat.zero_mul]; rfl
  | i + 1, hi => by
    rw [tmat, trow_val (tmat_length xs bs i) (by omega) 5 (by omega), Nat.add_mod, tmat_val hb i (by omega), ← Nat.add_mod, pvn_five hb, pvn, Nat.add_mul]
theorem times_law {xs bs : List Nat} (ha : xs.length = 5) (hb : bs.length = 5) (wa : LtAll 268435456 xs) (wb : LtAll 67108864 bs) :
    LtAll (2 ^ 61) (tmat xs bs 5) ∧ (tmat xs bs 5).length = 5 ∧ val26 (tmat xs bs 5) % P130 = val26 xs * val26 bs % P130 :=
  ⟨(tmat_lt wa wb 5).mono (by decide), tmat_length xs bs 5, by rw [tmat_val hb 5 (by omega), pvn_five ha]⟩
def ywh (m : List Nat) : Nat → List Nat
  | 0 => m.set 0 (m.getD 0 0 + 5)
  | i + 1 => ((ywh m i).set (i + 1) ((ywh m i).getD (i + 1) 0 + (ywh m i).getD i 0 / 67108864)).set i ((ywh m i).getD i 0 % 67108864)
theorem ywh_length (m : List Nat) : ∀ i, (ywh m i).length = m.length
  | 0 => by simp [ywh]
  | i + 1 => by rw [ywh, List.length_set, List.length_set, ywh_length m i]
theorem ywh_lt {m : List Nat} (w : LtAll 134217728 m) : ∀ i, i ≤ 10 → LtAll (134217728 + 6 + i * 8) (ywh m i)
  | 0, _ => (w.mono (by omega)).set _ _ (by have := w.getD (by omega) 0; omega)
  | i + 1, hi => by
    have h := ywh_lt w i (by omega)
    have q1 := h.getD (by omega) (i + 1)
    have q2 := h.getD (by omega) i
    rw [ywh]
    exact ((h.mono (by omega)).set _ _ (by omega)).set _ _ (by omega)
def wholeL (m : List Nat) : List Nat := if (ywh m 4).getD 4 0 / 67108864 = 0 then m else (ywh m 4).set 4 ((ywh m 4).getD 4 0 % 67108864)
theorem wl_a {A B C P : Nat} (h1 : A + 5 = B) (h2 : B = C) (h3 : C < P + 5) : A < P := by omega
theorem wl_b {A B C q : Nat} (h1 : A + 5 = B) (h2 : B = C + 1361129467683753853853498429727072845824 * q) (hv : A < 1361129467683753853853498429727072845824 + 2 ^ 44) (h0 : ¬ q = 0) : q = 1 := by omega
theorem wl_c {A B C P : Nat} (h1 : A + 5 = B) (h2 : B = C + (P + 5)) (hv : A < P + 5 + 2 ^ 44) (hP : 2 ^ 45 < P) : A = C + P * 1 ∧ C < P := by omega
theorem whole_law {m : List Nat} (hl : m.length = 5) (w : LtAll 134217728 m) (hv : val26 m < 4 * H16 + 2 ^ 44) : (wholeL m).length = 5 ∧ LtAll 134217728 (wholeL m) ∧ val26 (wholeL m) = val26 m % P130 := by
  obtain ⟨a, b, c, d, e, rfl⟩ := five hl
  obtain ⟨wa, wb, wc, wd, we⟩ := w.all5
  obtain ⟨t0, ht0⟩ : ∃ t, t = a + 5 := ⟨_, rfl⟩
  obtain ⟨t1, ht1⟩ : ∃ t, t = b + t0 / 67108864 := ⟨_, rfl⟩
  obtain ⟨t2, ht2⟩ : ∃ t, t = c + t1 / 67108864 := ⟨_, rfl⟩
  obtain ⟨t3, ht3⟩ : ∃ t, t = d + t2 / 67108864 := ⟨_, rfl⟩
  obtain ⟨t4, ht4⟩ : ∃ t, t = e + t3 / 67108864 := ⟨_, rfl⟩
  have hY : ywh [a, b, c, d, e] 4 = [t0 % 67108864, t1 % 67108864, t2 % 67108864, t3 % 67108864, t4] := by rw [ht4, ht3, ht2, ht1, ht0]; rfl
  have hW : wholeL [a, b, c, d, e] = if t4 / 67108864 = 0 then [a, b, c, d, e] else [t0 % 67108864, t1 % 67108864, t2 % 67108864, t3 % 67108864, t4 % 67108864] := by unfold wholeL; rw [hY]; rfl
  have e16 : H16 = 340282366920938463463374607431768211456 := rfl
  rw [hW]
  have hs : val26 [a, b, c, d, e] + 5 = val26 [t0 % 67108864, t1 % 67108864, t2 % 67108864, t3 % 67108864, t4] := by simp only [val26]; omega
  have hx : val26 [t0 % 67108864, t1 % 67108864, t2 % 67108864, t3 % 67108864, t4] = val26 [t0 % 67108864, t1 % 67108864, t2 % 67108864, t3 % 67108864, t4 % 67108864] + (P130 + 5) * (t4 / 67108864) := by rw [P130_eq]; simp only [val26]; omega
  have hb4 : val26 [t0 % 67108864, t1 % 67108864, t2 % 67108864, t3 % 67108864, t4 % 67108864] < P130 + 5 := by rw [P130_eq]; simp only [val26]; omega
  have hH : 4 * H16 = P130 + 5 := rfl
  rw [hH] at hv
  split
  · rename_i h0
    refine ⟨rfl, w, ?_⟩
    rw [h0, Nat.mul_zero, Nat.add_zero] at hx
    rw [Nat.mod_eq_of_lt (wl_a hs hx hb4)]
  · rename_i h0
    refine ⟨rfl, LtAll.five (by omega) (by omega) (by omega) (by omega) (by omega), ?_⟩
    have h1 : t4 / 67108864 = 1 := by
      rw [P130_eq] at hx hv
      exact wl_b hs hx hv h0
    rw [h1, Nat.mul_one] at hx
    obtain ⟨hk, hC⟩ := wl_c hs hx hv (by rw [P130_eq]; decide)
    rw [hk, Nat.add_mul_mod_self_left, Nat.mod_eq_of_lt hC]
end Go.Proofs.YtnpacofabdgcdaaDoor
namespace Go.Proofs.YtnpacofabdgcdaaDoor
open Go Go.V
set_option linter.unusedSimpArgs false
set_option linter.unusedVariables false
set_option maxRecDepth 100000
theorem carry_ok (T : World) (h : Hp) (bk : Nat) (l : List Nat) (hl : l.length = 5) (w : LtAll (2 ^ 61) l) (hb : h[bk]? = some (limC l)) :
    CallsH Tryd.prog T 257 #[.pointer (some ⟨bk, 0, none⟩)] h fun v' h' => h' = h.setIfInBounds bk (limC (carryL l)) :=
  (carry_loop T h bk l hl w hb).mono fun v' h' ⟨a, ha, hh⟩ => by subst ha; exact hh
theorem nth_uv {l : List Nat} {i : Nat} (hi : i < l.length) : nth (l.map uv) i = some (.int .u64 (l.getD i 0 : Nat)) := by
  rw [nth_eq, List.getElem?_map, List.getElem?_eq_getElem hi, List.getD_eq_getElem?_getD, List.getElem?_eq_getElem hi]; rfl
theorem rd_lim {g : Hp} {b : Nat} {l : List Nat} (hl : l.length = 5) (hx : g[b]? = some (limC l)) : rd g ⟨b, 0, none⟩ 5 = some (l.map uv) := by
  unfold limC at hx
  rw [List.append_nil] at hx
  exact rd_last hx (by simpa using hl)
set_option maxHeartbeats 1000000 in
theorem limTimes_ok (T : World) (h : Hp) (xs bs : List Nat) (ha : xs.length = 5) (hb : bs.length = 5) (wa : LtAll 268435456 xs) (wb : LtAll 67108864 bs) :
    CallsH Tryd.prog T 244 #[.agg (xs.map uv).toArray, .agg (bs.map uv).toArray] h fun v' h' => v' = .agg ((carryL (tmat xs bs 5)).map uv).toArray ∧ Bel h.size h h' := by
  have la : (xs.map uv).length = 5 := by simpa using ha
  have lb : (bs.map uv).length = 5 := by simpa using hb
  have ta : (xs.map uv).take 5 = xs.map uv := List.take_of_length_le (by omega)
  refine CallsH.of_code' (args := [_, _]) Tryd.func244 rfl rfl rfl rfl ?_
  simp (config := {maxSteps := 2000000, implicitDefEqProofs := false}) only [go_sem, ↓reduceIte, Nat.reduceEqDiff, Nat.reduceAdd, Nat.reduceMul, Nat.reduceLeDiff, Nat.reduceLT, Nat.reduceSub, IntWalk.iteOmega, IntWalk.toNatUp, reduceCtorEq, Int.reduceLE, Int.reduceLT, Int.reduceToNat, Int.reduceNeg, la, lb, ta]
  obtain ⟨H, hH⟩ : ∃ H : Hp, H = ((((h.push (.cells (xs.map uv).toArray 262)).push (.cells (bs.map uv).toArray 262)).push (.cells #[.int .u64 0, .int .u64 0, .int .u64 0, .int .u64 0, .int .u64 0] 262)).push (.cells #[.int .u64 0, .int .u64 0, .int .u64 0, .int .u64 0, .int .u64 0] 262)) := ⟨_, rfl⟩
  have HB : Bel h.size h H := by rw [hH]; exact (((Bel.push (Nat.le_refl _) _).addP (by simp) _).addP (by simp; omega) _).addP (by simp; omega) _
  have Hs : H.size = h.size + 1 + 1 + 1 + 1 := by rw [hH]; simp
  have H1 : H[h.size + 1]? = some (limC bs) := by
    rw [hH, get_push_ne (by simp), get_push_ne (by simp)]
    have := get_push_last (h := h.push (.cells (xs.map uv).toArray 262)) (o := .cells (bs.map uv).toArray 262)
    rw [Array.size_push] at this
    rw [this]; unfold limC; rw [List.append_nil]
  have H3 : H[h.size + 1 + 1 + 1]? = some (limC (tmat xs bs 0)) := by
    have := get_push_last (h := (((h.push (.cells (xs.map uv).toArray 262)).push (.cells (bs.map uv).toArray 262)).push (.cells #[.int .u64 0, .int .u64 0, .int .u64 0, .int .u64 0, .int .u64 0] 262))) (o := .cells #[.int .u64 0, .int .u64 0, .int .u64 0, .int .u64 0, .int .u64 0] 262)
    rw [Array.size_push, Array.size_push, Array.size_push] at this
    rw [hH, this]; rfl
  have H2 : H[h.size + 1 + 1]? = some (limC [0, 0, 0, 0, 0]) := by
    have := get_push_last (h := ((h.push (.cells (xs.map uv).toArray 262)).push (.cells (bs.map uv).toArray 262))) (o := .cells #[.int .u64 0, .int .u64 0, .int .u64 0, .int .u64 0, .int .u64 0] 262)
    rw [Array.size_push, Array.size_push] at this
    rw [hH, get_push_ne (by simp), this]; rfl
  rw [← hH]
  clear hH
  obtain ⟨bo, hbo⟩ : ∃ bo, bo = h.size + 1 + 1 + 1 := ⟨_, rfl⟩
  obtain ⟨br, hbr⟩ : ∃ br, br = h.size + 1 + 1 := ⟨_, rfl⟩
  obtain ⟨bb, hbb⟩ : ∃ bb, bb = h.size + 1 := ⟨_, rfl⟩
  rw [← hbo] at H3 ⊢
  rw [← hbr] at H2 ⊢
  rw [← hbb] at H1 ⊢
  refine VS.loop' (fun F g => F 3 = .pointer (some ⟨bb, 0, none⟩) ∧ F 4 = .pointer (some ⟨br, 0, none⟩) ∧ F 5 = .pointer (some ⟨bo, 0, none⟩) ∧ F 10 = .agg (xs.map uv).toArray ∧ ∃ i : Nat, i ≤ 5 ∧ F 11 = .int .i64 i ∧ g = H.setIfInBounds bo (limC (tmat xs bs i)))
    (fun F _ => 5 - (vi (F 11)).toNat) rfl ⟨rfl, rfl, rfl, rfl, 0, by omega, rfl, (set_same H3).symm⟩ ?_
  rintro F g ⟨f3, f4, f5, f10, i, hi, f11, rfl⟩
  by_cases hlt : i < 5
  · have hlt' : (i : Int) < 5 := by omega
    have n1 := nth_uv (l := xs) (i := i) (by omega)
    have H1' : (H.setIfInBounds bo (limC (tmat xs bs i)))[bb]? = some (limC bs) := by rw [Array.getElem?_setIfInBounds, if_neg (by omega)]; exact H1
    have r1 := rd_lim hb H1'
    have wA := wa.getD (by omega) i
    have hrow : tmat xs bs (i + 1) = trow (xs.getD i 0) bs (tmat xs bs i) i 5 := rfl
    obtain ⟨a, hax⟩ : ∃ a, a = xs.getD i 0 := ⟨_, rfl⟩
    rw [← hax] at n1 wA hrow
    simp (config := {maxSteps := 2000000, implicitDefEqProofs := false}) only [go_sem, ↓reduceIte, Nat.reduceEqDiff, Nat.reduceAdd, Nat.reduceMul, Nat.reduceLeDiff, Nat.reduceLT, Nat.reduceSub, IntWalk.iteOmega, IntWalk.toNatUp, reduceCtorEq, Int.reduceLE, Int.reduceLT, Int.reduceToNat, Int.reduceNeg, f3, f4, f5, f10, f11, hlt', Int.toNat_natCast, n1, r1]
    have wO : LtAll (1 + i * 450359962737049600) (tmat xs bs i) := tmat_lt wa wb i
    have lO := tmat_length xs bs i
    obtain ⟨o, ho⟩ : ∃ o, o = tmat xs bs i := ⟨_, rfl⟩
    rw [← ho] at hrow wO lO ⊢
    refine VS.loop' (fun F g => F 3 = .pointer (some ⟨bb, 0, none⟩) ∧ F 4 = .pointer (some ⟨br, 0, none⟩) ∧ F 5 = .pointer (some ⟨bo, 0, none⟩) ∧ F 10 = .agg (xs.map uv).toArray ∧ F 11 = .int .i64 i ∧ F 6 = .int .i64 i ∧ F 7 = .int .u64 a ∧ F 15 = .agg (bs.map uv).toArray ∧ ∃ k : Nat, k ≤ 5 ∧ F 16 = .int .i64 k ∧ g = H.setIfInBounds bo (limC (trow a bs o i k)))
      (fun F _ => 5 - (vi (F 16)).toNat) rfl ⟨f3, f4, f5, f10, f11, rfl, rfl, rfl, 0, by omega, rfl, rfl⟩ ?_
    clear f3 f4 f5 f10 f11 F
    rintro F g ⟨f3, f4, f5, f10, f11, f6, f7, f15, k, hk, f16, rfl⟩
    by_cases hlk : k < 5
    · have hlk' : (k : Int) < 5 := by omega
      have n2 := nth_uv (l := bs) (i := k) (by omega)
      have wB := wb.getD (by omega) k
      have hstep : trow a bs o i (k + 1) = tstep a (bs.getD k 0) (trow a bs o i k) i k := rfl
      obtain ⟨b, hbx⟩ : ∃ b, b = bs.getD k 0 := ⟨_, rfl⟩
      rw [← hbx] at n2 wB hstep
      have wR := trow_lt wO (by omega) wA wb (i := i) k
      have lR : (trow a bs o i k).length = 5 := by rw [trow_length, lO]
      have hx : (H.setIfInBounds bo (limC (trow a bs o i k)))[bo]? = some (limC (trow a bs o i k)) := cells_new H3
      have hp := mul_bound wA wB
      have hp5 := mul_bound5 wA wB
      obtain ⟨r, hr⟩ : ∃ r, r = trow a bs o i k := ⟨_, rfl⟩
      rw [← hr] at hstep wR lR hx ⊢
      obtain ⟨G, hG⟩ : ∃ G, G = H.setIfInBounds bo (limC r) := ⟨_, rfl⟩
      rw [← hG] at hx ⊢
      have eik : (i : Int) + (k : Int) = ((i + k : Nat) : Int) := rfl
      by_cases h5 : i + k < 5
      · have h5' : ((i + k : Nat) : Int) < 5 := by omega
        have g1 := cells_get hx (i := i + k) (by omega)
        have y1 := wR.getD (by omega) (i + k)
        unfold uv at g1
        have hs : tstep a b r i k = r.set (i + k) (r.getD (i + k) 0 + a * b) := by unfold tstep; rw [if_pos h5]
        rw [hs] at hstep
        obtain ⟨y, hy⟩ : ∃ y, y = r.getD (i + k) 0 := ⟨_, rfl⟩
        rw [← hy] at g1 y1 hstep
        have e1 : (a : Int) * (b : Int) = ((a * b : Nat) : Int) := (Int.natCast_mul a b).symm
        have e2 : ((a * b : Nat) : Int) % 18446744073709551616 = ((a * b : Nat) : Int) := by omega
        obtain ⟨p, hp'⟩ : ∃ p, p = a * b := ⟨_, rfl⟩
        rw [← hp'] at e1 e2 hp hstep
        have e3 : (y : Int) + (p : Int) = ((y + p : Nat) : Int) := rfl
        have e4 : ((y + p : Nat) : Int) % 18446744073709551616 = ((y + p : Nat) : Int) := by omega
        have c1 : wr1 G ⟨bo, i + k, none⟩ (.int .u64 (y + p : Nat)) = _ := cells_set (f := uv) hx (i := i + k) (by omega) (y + p) rfl
        simp (config := {maxSteps := 2000000, implicitDefEqProofs := false}) only [go_sem, ↓reduceIte, Nat.reduceEqDiff, Nat.reduceAdd, Nat.reduceMul, Nat.reduceLeDiff, Nat.reduceLT, Nat.reduceSub, IntWalk.iteOmega, IntWalk.toNatUp, reduceCtorEq, Int.reduceLE, Int.reduceLT, Int.reduceToNat, Int.reduceNeg, f3, f4, f5, f6, f7, f10, f11, f15, f16, hlk', Int.toNat_natCast, n2, eik, h5', g1, e1, e2, e3, e4, c1]
        refine ⟨⟨f3, f4, f5, f10, f11, f6, f7, f15, k + 1, hlk, rfl, ?_⟩, ?_⟩
        · rw [hG, set_set, hstep]; rfl
        · simp only [vi, updo_some, ↓reduceIte, f16]; omega
      · have h5' : ¬ ((i + k : Nat) : Int) < 5 := by omega
        have g1 := cells_get hx (i := i + k - 5) (by omega)
        have y1 := wR.getD (by omega) (i + k - 5)
        unfold uv at g1
        have hs : tstep a b r i k = r.set (i + k - 5) (r.getD (i + k - 5) 0 + 5 * a * b) := by unfold tstep; rw [if_neg h5]
        rw [hs] at hstep
        obtain ⟨y, hy⟩ : ∃ y, y = r.getD (i + k - 5) 0 := ⟨_, rfl⟩
        rw [← hy] at g1 y1 hstep
        have e0 : (5 : Int) * (a : Int) = ((5 * a : Nat) : Int) := rfl
        have e0' : ((5 * a : Nat) : Int) % 18446744073709551616 = ((5 * a : Nat) : Int) := by omega
        have e1 : ((5 * a : Nat) : Int) * (b : Int) = ((5 * a * b : Nat) : Int) := (Int.natCast_mul (5 * a) b).symm
        have e2 : ((5 * a * b : Nat) : Int) % 18446744073709551616 = ((5 * a * b : Nat) : Int) := by omega
        obtain ⟨p, hp'⟩ : ∃ p, p = 5 * a * b := ⟨_, rfl⟩
        rw [← hp'] at e1 e2 hp5 hstep
        have e3 : (y : Int) + (p : Int) = ((y + p : Nat) : Int) := rfl
        have e4 : ((y + p : Nat) : Int) % 18446744073709551616 = ((y + p : Nat) : Int) := by omega
        have e5 : ((i + k : Nat) : Int) - 5 = ((i + k - 5 : Nat) : Int) := by omega
        have e6 : ((i + k - 5 : Nat) : Int) < 5 := by omega
        have c1 : wr1 G ⟨bo, i + k - 5, none⟩ (.int .u64 (y + p : Nat)) = _ := cells_set (f := uv) hx (i := i + k - 5) (by omega) (y + p) rfl
        simp (config := {maxSteps := 2000000, implicitDefEqProofs := false}) only [go_sem, ↓reduceIte, Nat.reduceEqDiff, Nat.reduceAdd, Nat.reduceMul, Nat.reduceLeDiff, Nat.reduceLT, Nat.reduceSub, IntWalk.iteOmega, IntWalk.toNatUp, reduceCtorEq, Int.reduceLE, Int.reduceLT, Int.reduceToNat, Int.reduceNeg, f3, f4, f5, f6, f7, f10, f11, f15, f16, hlk', Int.toNat_natCast, n2, eik, h5', g1, e0, e0', e1, e2, e3, e4, e5, e6, c1]
        refine ⟨⟨f3, f4, f5, f10, f11, f6, f7, f15, k + 1, hlk, rfl, ?_⟩, ?_⟩
        · rw [hG, set_set, hstep]; rfl
        · simp only [vi, updo_some, ↓reduceIte, f16]; omega
    · have hge : ¬ (k : Int) < 5 := by omega
      obtain rfl : k = 5 := by omega
      have c5 : ((5 : Nat) : Int) = 5 := rfl
      rw [c5] at f16 hge
      simp (config := {maxSteps := 2000000, implicitDefEqProofs := false}) only [go_sem, ↓reduceIte, Nat.reduceEqDiff, Nat.reduceAdd, Nat.reduceMul, Nat.reduceLeDiff, Nat.reduceLT, Nat.reduceSub, IntWalk.iteOmega, IntWalk.toNatUp, reduceCtorEq, Int.reduceLE, Int.reduceLT, Int.reduceToNat, Int.reduceNeg, f3, f4, f5, f10, f11, f16, hge]
      refine ⟨⟨f3, f4, f5, f10, i + 1, hlt, rfl, ?_⟩, ?_⟩
      · rw [hrow]
      · simp only [vi, updo_some, ↓reduceIte, f11]; omega
  · have hge : ¬ (i : Int) < 5 := by omega
    obtain rfl : i = 5 := by omega
    have c5 : ((5 : Nat) : Int) = 5 := rfl
    rw [c5] at f11 hge
    have hx : (H.setIfInBounds bo (limC (tmat xs bs 5)))[bo]? = some (limC (tmat xs bs 5)) := cells_new H3
    have hx2 : (H.setIfInBounds bo (limC (tmat xs bs 5)))[br]? = some (limC [0, 0, 0, 0, 0]) := by rw [Array.getElem?_setIfInBounds, if_neg (by omega)]; exact H2
    have HB2 : Bel h.size h (H.setIfInBounds bo (limC (tmat xs bs 5))) := HB.addSet (by omega) _
    obtain ⟨w1, w2, w3⟩ := times_law ha hb wa wb
    obtain ⟨o, ho⟩ : ∃ o, o = tmat xs bs 5 := ⟨_, rfl⟩
    rw [← ho] at hx hx2 HB2 w1 w2 ⊢
    generalize H.setIfInBounds bo (limC o) = G at *
    simp (config := {maxSteps := 2000000, implicitDefEqProofs := false}) only [go_sem, ↓reduceIte, Nat.reduceEqDiff, Nat.reduceAdd, Nat.reduceMul, Nat.reduceLeDiff, Nat.reduceLT, Nat.reduceSub, IntWalk.iteOmega, IntWalk.toNatUp, reduceCtorEq, Int.reduceLE, Int.reduceLT, Int.reduceToNat, Int.reduceNeg, f3, f4, f5, f10, f11, hge]
    refine (carry_ok T G bo o w2 w1 hx).use ?_
    rintro _ _ rfl
    obtain ⟨m1, m2, m3⟩ := carry_law w2 w1
    have hx3 : (G.setIfInBounds bo (limC (carryL o)))[bo]? = some (limC (carryL o)) := cells_new hx
    have hx4 : (G.setIfInBounds bo (limC (carryL o)))[br]? = some (limC [0, 0, 0, 0, 0]) := by rw [Array.getElem?_setIfInBounds, if_neg (by omega)]; exact hx2
    have HB3 : Bel h.size h (G.setIfInBounds bo (limC (carryL o))) := HB2.addSet (by omega) _
    generalize G.setIfInBounds bo (limC (carryL o)) = G2 at *
    have r3 := rd_lim m1 hx3
    have lc : ((carryL o).map uv).length = 5 := by simpa using m1
    have w4 := wr_get (h := G2) (b := br) (l := ([0, 0, 0, 0, 0].map uv)) (by unfold limC at hx4; rw [List.append_nil] at hx4; exact hx4) 0 ((carryL o).map uv)
    have ho4 : ((carryL o).map uv).all oneC = true := by simp [uv, oneC]
    rw [if_pos ⟨by simp [lc], ho4⟩, lput_full (by simp [lc])] at w4
    have tc : ((carryL o).map uv).take 5 = (carryL o).map uv := List.take_of_length_le (by omega)
    have hlr := lt_of_get hx4
    simp (config := {maxSteps := 2000000, implicitDefEqProofs := false}) only [go_sem, ↓reduceIte, Nat.reduceEqDiff, Nat.reduceAdd, Nat.reduceMul, Nat.reduceLeDiff, Nat.reduceLT, Nat.reduceSub, IntWalk.iteOmega, IntWalk.toNatUp, reduceCtorEq, Int.reduceLE, Int.reduceLT, Int.reduceToNat, Int.reduceNeg, f3, f4, f5, r3, w4, lc, tc, hlr]
    exact HB3.addSet (by omega) _
end Go.Proofs.YtnpacofabdgcdaaDoor
namespace Go.Proofs.YtnpacofabdgcdaaDoor
open Go Go.V
set_option linter.unusedSimpArgs false
set_option linter.unusedVariables false
set_option maxRecDepth 100000
set_option maxHeartbeats 1000000 in
theorem limWhole_ok (T : World) (h : Hp) (xs : List Nat) (ha : xs.length = 5) (wa : LtAll 268435456 xs) :
    CallsH Tryd.prog T 245 #[.agg (xs.map uv).toArray] h fun v' h' => v' = .agg ((wholeL (carryL xs)).map uv).toArray ∧ Bel h.size h h' := by
  have la : (xs.map uv).length = 5 := by simpa using ha
  refine CallsH.of_code' (args := [_]) Tryd.func245 rfl rfl rfl rfl ?_
  simp (config := {maxSteps := 2000000, implicitDefEqProofs := false}) only [go_sem, ↓reduceIte, Nat.reduceEqDiff, Nat.reduceAdd, Nat.reduceMul, Nat.reduceLeDiff, Nat.reduceLT, Nat.reduceSub, IntWalk.iteOmega, IntWalk.toNatUp, reduceCtorEq, Int.reduceLE, Int.reduceLT, Int.reduceToNat, Int.reduceNeg, la]
  obtain ⟨H, hH⟩ : ∃ H : Hp, H = ((h.push (.cells (xs.map uv).toArray 262)).push (.cells #[.int .u64 0, .int .u64 0, .int .u64 0, .int .u64 0, .int .u64 0] 262)) := ⟨_, rfl⟩
  have HB : Bel h.size h H := by rw [hH]; exact ((Bel.push (Nat.le_refl _) _).addP (by simp) _)
  have Hs : H.size = h.size + 1 + 1 := by rw [hH]; simp
  have H0 : H[h.size]? = some (limC xs) := by
    rw [hH, get_push_ne (by simp), get_push_last]; unfold limC; rw [List.append_nil]
  have H1 : H[h.size + 1]? = some (limC [0, 0, 0, 0, 0]) := by
    have := get_push_last (h := (h.push (.cells (xs.map uv).toArray 262))) (o := .cells #[.int .u64 0, .int .u64 0, .int .u64 0, .int .u64 0, .int .u64 0] 262)
    rw [Array.size_push] at this
    rw [hH, this]; rfl
  rw [← hH]
  clear hH
  refine (carry_ok T H h.size xs ha (wa.mono (by decide)) H0).use ?_
  rintro _ _ rfl
  obtain ⟨m1, m2, m3, m4⟩ := carry_law ha (wa.mono (by decide))
  have hx0 : (H.setIfInBounds h.size (limC (carryL xs)))[h.size]? = some (limC (carryL xs)) := cells_new H0
  have hx1 : (H.setIfInBounds h.size (limC (carryL xs)))[h.size + 1]? = some (limC [0, 0, 0, 0, 0]) := by rw [Array.getElem?_setIfInBounds, if_neg (by omega)]; exact H1
  have HB2 : Bel h.size h (H.setIfInBounds h.size (limC (carryL xs))) := HB.addSet (Nat.le_refl _) _
  have Hs2 : (H.setIfInBounds h.size (limC (carryL xs))).size = h.size + 1 + 1 := by rw [Array.size_setIfInBounds]; exact Hs
  obtain ⟨m, hm⟩ : ∃ m, m = carryL xs := ⟨_, rfl⟩
  rw [← hm] at hx0 hx1 HB2 Hs2 m1 m2 m3 m4 ⊢
  generalize H.setIfInBounds h.size (limC m) = G at *
  have r0 := rd_lim m1 hx0
  have lm : (m.map uv).length = 5 := by simpa using m1
  have hom : (m.map uv).all oneC = true := by simp [uv, oneC]
  have lp : lput [Value.int .u64 0, .int .u64 0, .int .u64 0, .int .u64 0, .int .u64 0] 0 (m.map uv) = m.map uv := lput_full lm
  have n0 := nth_uv (l := m) (i := 0) (by omega)
  have y0 := m2.getD (by omega) 0
  have hw0 : ywh m 0 = m.set 0 (m.getD 0 0 + 5) := rfl
  obtain ⟨y, hy⟩ : ∃ y, y = m.getD 0 0 := ⟨_, rfl⟩
  rw [← hy] at n0 y0 hw0
  have e1 : (y : Int) + 5 = ((y + 5 : Nat) : Int) := rfl
  have e2 : ((y + 5 : Nat) : Int) % 18446744073709551616 = ((y + 5 : Nat) : Int) := by omega
  simp (config := {maxSteps := 2000000, implicitDefEqProofs := false}) only [go_sem, ↓reduceIte, Nat.reduceEqDiff, Nat.reduceAdd, Nat.reduceMul, Nat.reduceLeDiff, Nat.reduceLT, Nat.reduceSub, IntWalk.iteOmega, IntWalk.toNatUp, reduceCtorEq, Int.reduceLE, Int.reduceLT, Int.reduceToNat, Int.reduceNeg, r0, lm, hom, Hs2, lp, n0, e1, e2]
  have hms : (m.map uv).set 0 (.int .u64 (y + 5 : Nat)) = (m.set 0 (y + 5)).map uv := by rw [List.map_set]; rfl
  rw [hms, ← hw0]
  obtain ⟨J, hJ⟩ : ∃ J, J = G.push (.cells ((ywh m 0).map uv).toArray 262) := ⟨_, rfl⟩
  have J3 : J[h.size + 1 + 1]? = some (limC (ywh m 0)) := by
    rw [hJ, ← Hs2, get_push_last]; unfold limC; rw [List.append_nil]
  have J0 : J[h.size]? = some (limC m) := by rw [hJ, get_push_ne (by omega)]; exact hx0
  have J1 : J[h.size + 1]? = some (limC [0, 0, 0, 0, 0]) := by rw [hJ, get_push_ne (by omega)]; exact hx1
  have JB : Bel h.size h J := by rw [hJ]; exact HB2.addP (by omega) _
  rw [← hJ]
  clear hJ
  obtain ⟨b3, hb3⟩ : ∃ b, b = h.size + 1 + 1 := ⟨_, rfl⟩
  obtain ⟨b2, hb2⟩ : ∃ b, b = h.size + 1 := ⟨_, rfl⟩
  rw [← hb3] at J3 ⊢
  rw [← hb2] at J1 ⊢
  refine VS.loop' (fun F g => F 1 = .pointer (some ⟨h.size, 0, none⟩) ∧ F 2 = .pointer (some ⟨b2, 0, none⟩) ∧ F 3 = .pointer (some ⟨b3, 0, none⟩) ∧ ∃ i : Nat, i ≤ 4 ∧ F 11 = .int .i64 i ∧ g = J.setIfInBounds b3 (limC (ywh m i)))
    (fun F _ => 4 - (vi (F 11)).toNat) rfl ⟨rfl, rfl, rfl, 0, by omega, rfl, (set_same J3).symm⟩ ?_
  rintro F g ⟨f1, f2, f3, i, hi, f11, rfl⟩
  have hx : (J.setIfInBounds b3 (limC (ywh m i)))[b3]? = some (limC (ywh m i)) := cells_new J3
  have wY := ywh_lt m2 i (by omega)
  have lY : (ywh m i).length = 5 := by rw [ywh_length, m1]
  by_cases hlt : i < 4
  · have hlt' : (i : Int) < 4 := by omega
    have hnext : ywh m (i + 1) = ((ywh m i).set (i + 1) ((ywh m i).getD (i + 1) 0 + (ywh m i).getD i 0 / 67108864)).set i ((ywh m i).getD i 0 % 67108864) := rfl
    obtain ⟨r, hr⟩ : ∃ r, r = ywh m i := ⟨_, rfl⟩
    rw [← hr] at hx wY lY hnext ⊢
    obtain ⟨G1, hG1⟩ : ∃ G1, G1 = J.setIfInBounds b3 (limC r) := ⟨_, rfl⟩
    rw [← hG1] at hx ⊢
    have g1 := cells_get hx (i := i + 1) (by omega)
    have g0 := cells_get hx (i := i) (by omega)
    have q1 := wY.getD (by omega) (i + 1)
    have q0 := wY.getD (by omega) i
    unfold uv at g0 g1
    obtain ⟨a, hax⟩ : ∃ a, a = r.getD i 0 := ⟨_, rfl⟩
    obtain ⟨b, hbx⟩ : ∃ b, b = r.getD (i + 1) 0 := ⟨_, rfl⟩
    rw [← hax] at g0 q0 hnext
    rw [← hbx] at g1 q1 hnext
    have s1 := shr26 a
    have s2 := mask26 a (by omega)
    have t1 : (b : Int) + ((a / 67108864 : Nat) : Int) = ((b + a / 67108864 : Nat) : Int) := rfl
    have t2 : ((b + a / 67108864 : Nat) : Int) % 18446744073709551616 = ((b + a / 67108864 : Nat) : Int) := by omega
    have ei : (i : Int) + 1 = ((i + 1 : Nat) : Int) := rfl
    have hi5 : ((i + 1 : Nat) : Int) < 5 := by omega
    have hi5' : (i : Int) < 5 := by omega
    have c1 : wr1 G1 ⟨b3, i + 1, none⟩ (.int .u64 (b + a / 67108864 : Nat)) = _ := cells_set (f := uv) hx (i := i + 1) (by omega) (b + a / 67108864) rfl
    have hy1 := cells_new (o := .cells ((r.set (i + 1) (b + a / 67108864)).map uv ++ []).toArray 262) hx
    have l1 : (r.set (i + 1) (b + a / 67108864)).length = 5 := by rw [List.length_set, lY]
    have v1 : (r.set (i + 1) (b + a / 67108864)).getD i 0 = a := by rw [getD_set_ne' (by omega), ← hax]
    obtain ⟨r1, hr1⟩ : ∃ r1, r1 = r.set (i + 1) (b + a / 67108864) := ⟨_, rfl⟩
    rw [← hr1] at c1 hy1 l1 v1 hnext
    obtain ⟨G2, hG2⟩ : ∃ G2, G2 = G1.setIfInBounds b3 (.cells (r1.map uv ++ []).toArray 262) := ⟨_, rfl⟩
    rw [← hG2] at c1 hy1
    have g2 := cells_get hy1 (i := i) (by omega)
    unfold uv at g2
    rw [v1] at g2
    have c2 : wr1 G2 ⟨b3, i, none⟩ (.int .u64 (a % 67108864 : Nat)) = _ := cells_set (f := uv) hy1 (i := i) (by omega) (a % 67108864) rfl
    simp (config := {maxSteps := 2000000, implicitDefEqProofs := false}) only [go_sem, ↓reduceIte, Nat.reduceEqDiff, Nat.reduceAdd, Nat.reduceMul, Nat.reduceLeDiff, Nat.reduceLT, Nat.reduceSub, IntWalk.iteOmega, IntWalk.toNatUp, reduceCtorEq, Int.reduceLE, Int.reduceLT, Int.reduceToNat, Int.reduceNeg, f1, f2, f3, f11, hlt']
    refine VS.w (b3 + 1) [10] (.q 0 (.q 1 (.q 2 (.q 3 (.q 4 (.q 5 (.q 6 (.q 7 (.q 8 (.q 9 (.w 10 .nil))))))))))) mixed (by kernel_rfl) ?_
    simp (config := {maxSteps := 2000000, implicitDefEqProofs := false}) only [go_sem, ↓reduceIte, Nat.reduceEqDiff, Nat.reduceAdd, Nat.reduceMul, Nat.reduceLeDiff, Nat.reduceLT, Nat.reduceSub, IntWalk.iteOmega, IntWalk.toNatUp, reduceCtorEq, Int.reduceLE, Int.reduceLT, Int.reduceToNat, Int.reduceNeg, f1, f2, f3, f11, ei, hi5, hi5', Int.toNat_natCast, Nat.zero_add, g0, g1, s1, t1, t2, c1, g2, s2, c2]
    refine ⟨⟨f1, f2, f3, i + 1, hlt, rfl, ?_⟩, ?_⟩
    · rw [hG2, set_set, hG1, set_set, hnext]; rfl
    · simp only [vi, updo_some, ↓reduceIte, f11]; omega
  · have hge : ¬ (i : Int) < 4 := by omega
    obtain rfl : i = 4 := by omega
    have c4 : ((4 : Nat) : Int) = 4 := rfl
    rw [c4] at f11 hge
    have hW : wholeL m = if (ywh m 4).getD 4 0 / 67108864 = 0 then m else (ywh m 4).set 4 ((ywh m 4).getD 4 0 % 67108864) := rfl
    have hy0 : (J.setIfInBounds b3 (limC (ywh m 4)))[h.size]? = some (limC m) := by rw [Array.getElem?_setIfInBounds, if_neg (by omega)]; exact J0
    have hy1 : (J.setIfInBounds b3 (limC (ywh m 4)))[b2]? = some (limC [0, 0, 0, 0, 0]) := by rw [Array.getElem?_setIfInBounds, if_neg (by omega)]; exact J1
    have HB3 : Bel h.size h (J.setIfInBounds b3 (limC (ywh m 4))) := JB.addSet (by omega) _
    obtain ⟨r, hr⟩ : ∃ r, r = ywh m 4 := ⟨_, rfl⟩
    rw [← hr] at hx wY lY hy0 hy1 HB3 hW ⊢
    generalize J.setIfInBounds b3 (limC r) = G1 at *
    have g4 := cells_get hx (i := 4) (by omega)
    have q4 := wY.getD (by omega) 4
    unfold uv at g4
    obtain ⟨a, hax⟩ : ∃ a, a = r.getD 4 0 := ⟨_, rfl⟩
    rw [← hax] at g4 q4 hW
    have s1 := shr26 a
    have s2 := mask26 a (by omega)
    have w4 := fun (k : List Nat) (hk : k.length = 5) => wr_get (h := G1) (b := b2) (l := ([0, 0, 0, 0, 0].map uv)) (by unfold limC at hy1; rw [List.append_nil] at hy1; exact hy1) 0 (k.map uv)
    have h2s := lt_of_get hy1
    by_cases h0 : a / 67108864 = 0
    · have h0' : ((a / 67108864 : Nat) : Int) = 0 := by omega
      rw [if_pos h0] at hW
      have w5 := w4 m m1
      rw [if_pos ⟨by simp [lm], hom⟩, lput_full (by simp [lm])] at w5
      have r1 := rd_lim m1 hy0
      have tm : (m.map uv).take 5 = m.map uv := List.take_of_length_le (by omega)
      simp (config := {maxSteps := 2000000, implicitDefEqProofs := false}) only [go_sem, ↓reduceIte, Nat.reduceEqDiff, Nat.reduceAdd, Nat.reduceMul, Nat.reduceLeDiff, Nat.reduceLT, Nat.reduceSub, IntWalk.iteOmega, IntWalk.toNatUp, reduceCtorEq, Int.reduceLE, Int.reduceLT, Int.reduceToNat, Int.reduceNeg, f1, f2, f3, f11, hge, g4, s1, h0', r1, w5, lm, tm, h2s]
      exact ⟨by rw [hW], HB3.addSet (by omega) _⟩
    · have h0' : ¬ ((a / 67108864 : Nat) : Int) = 0 := by omega
      rw [if_neg h0] at hW
      have c1 : wr1 G1 ⟨b3, 4, none⟩ (.int .u64 (a % 67108864 : Nat)) = _ := cells_set (f := uv) hx (i := 4) (by omega) (a % 67108864) rfl
      have hz := cells_new (o := .cells ((r.set 4 (a % 67108864)).map uv ++ []).toArray 262) hx
      have l1 : (r.set 4 (a % 67108864)).length = 5 := by rw [List.length_set, lY]
      have HB4 : Bel h.size h (G1.setIfInBounds b3 (.cells ((r.set 4 (a % 67108864)).map uv ++ []).toArray 262)) := HB3.addSet (by omega) _
      have hz2 : (G1.setIfInBounds b3 (.cells ((r.set 4 (a % 67108864)).map uv ++ []).toArray 262))[b2]? = some (limC [0, 0, 0, 0, 0]) := by rw [Array.getElem?_setIfInBounds, if_neg (by omega)]; exact hy1
      rw [hW]
      obtain ⟨r1, hr1⟩ : ∃ r1, r1 = r.set 4 (a % 67108864) := ⟨_, rfl⟩
      rw [← hr1] at c1 hz l1 HB4 hz2 ⊢
      generalize G1.setIfInBounds b3 (.cells (r1.map uv ++ []).toArray 262) = G2 at *
      have r4 := rd_lim l1 hz
      have lr : (r1.map uv).length = 5 := by simpa using l1
      have hor : (r1.map uv).all oneC = true := by simp [uv, oneC]
      have w5 := wr_get (h := G2) (b := b2) (l := ([0, 0, 0, 0, 0].map uv)) (by unfold limC at hz2; rw [List.append_nil] at hz2; exact hz2) 0 (r1.map uv)
      rw [if_pos ⟨by simp [lr], hor⟩, lput_full (by simp [lr])] at w5
      have tm : (r1.map uv).take 5 = r1.map uv := List.take_of_length_le (by omega)
      have h2s' := lt_of_get hz2
      simp (config := {maxSteps := 2000000, implicitDefEqProofs := false}) only [go_sem, ↓reduceIte, Nat.reduceEqDiff, Nat.reduceAdd, Nat.reduceMul, Nat.reduceLeDiff, Nat.reduceLT, Nat.reduceSub, IntWalk.iteOmega, IntWalk.toNatUp, reduceCtorEq, Int.reduceLE, Int.reduceLT, Int.reduceToNat, Int.reduceNeg, f1, f2, f3, f11, hge, g4, s1, s2, h0', Nat.zero_add, c1, r4, w5, lr, tm, h2s']
      exact HB4.addSet (by omega) _
end Go.Proofs.YtnpacofabdgcdaaDoor
