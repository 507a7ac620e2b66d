/- The reference's number modulo 2^255 - 19, of a list of digits; no condition but those in the statements. -/
import Derived.Test.YtiakfdpmapmifaaCvd
namespace Go.Proofs.Ytiakfdpmapmifaa
open Go Go.V
set_option linter.unusedSimpArgs false
set_option linter.unusedVariables false
set_option maxRecDepth 100000
/-- A digit below 2^255, and one of what is above. -/
def alD (a : List Nat) (i : Nat) : Nat := if i < 15 then a.getD i 0 else a.getD i 0 % 32768
def upD (a : List Nat) (i : Nat) : Nat := a.getD (i + 15) 0 / 32768 + a.getD (i + 16) 0 % 32768 * 2
def lowV (a : List Nat) : Nat → Nat
  | 0 => 0
  | i + 1 => lowV a i + alD a i * 65536 ^ i
def upV (a : List Nat) : Nat → Nat
  | 0 => 0
  | i + 1 => upV a i + upD a i * 65536 ^ i
def H255 : Nat := 57896044618658097711785492504343953926634992332820282019728792003956564819968
def PN : Nat := 57896044618658097711785492504343953926634992332820282019728792003956564819949
theorem h255_15 : 32768 * 65536 ^ 15 = H255 := by decide
theorem h255_16 : 65536 ^ 16 = 2 * H255 := by decide
theorem cut_turn {a o : List Nat} {i c t : Nat} (ho : o.length = i) (hv : valE o + c * 65536 ^ i = lowV a i + 19 * upV a i) (ht : t = c + alD a i + 19 * upD a i) :
    valE (o ++ [t % 65536]) + t / 65536 * 65536 ^ (i + 1) = lowV a (i + 1) + 19 * upV a (i + 1) := by
  rw [valE_snoc, ho, lowV, upV]
  have e : t % 65536 + 65536 * (t / 65536) = t := Nat.mod_add_div t 65536
  generalize t % 65536 = r at *
  generalize t / 65536 = q at *
  rw [ht] at e
  generalize hX : 65536 ^ i = X at *
  have hX1 : 65536 ^ (i + 1) = 65536 * X := by rw [Nat.pow_succ, hX, Nat.mul_comm]
  rw [hX1]
  generalize alD a i = x at *
  generalize upD a i = y at *
  have e2 : (r + 65536 * q) * X = (c + x + 19 * y) * X := by rw [e]
  grind
theorem lowV_take (a : List Nat) : ∀ i, i ≤ 15 → lowV a i = valE (a.take i)
  | 0, _ => by simp [lowV, valE]
  | i + 1, h => by
    rw [lowV, lowV_take a i (by omega), valE_take]
    unfold alD; rw [if_pos (by omega)]
theorem up_sum (a : List Nat) : ∀ i, valE (a.take (16 + i)) = lowV a 16 + H255 * (upV a i + a.getD (i + 15) 0 / 32768 * 65536 ^ i)
  | 0 => by
    rw [Nat.add_zero, valE_take, upV, lowV, lowV_take a 15 (Nat.le_refl _), ← h255_15, Nat.zero_add, Nat.zero_add, Nat.pow_zero, Nat.mul_one]
    unfold alD; rw [if_neg (by omega)]
    have e := Nat.mod_add_div (a.getD 15 0) 32768
    generalize a.getD 15 0 % 32768 = r at *
    generalize a.getD 15 0 / 32768 = q at *
    rw [← e]
    generalize 65536 ^ 15 = X
    grind
  | i + 1 => by
    rw [← Nat.add_assoc, valE_take, up_sum a i, upV]
    unfold upD
    rw [Nat.pow_add, h255_16, show i + 1 + 15 = 16 + i by omega]
    have e := Nat.mod_add_div (a.getD (16 + i) 0) 32768
    generalize a.getD (16 + i) 0 % 32768 = r at *
    generalize a.getD (16 + i) 0 / 32768 = q at *
    rw [← e, Nat.pow_succ]
    generalize 65536 ^ i = X
    generalize a.getD (i + 15) 0 / 32768 = y
    generalize upV a i = u
    generalize lowV a 16 = l
    generalize H255 = H
    grind
/-- What is below 2^255 and what is above. -/
theorem cut_parts {a : List Nat} (hl : a.length ≤ 33) (hv : valE a < H255 * 65536 ^ 16) : valE a = lowV a 16 + H255 * upV a 16 := by
  have h1 := up_sum a 16
  have h2 := valE_take a 32
  have h3 : a.take 33 = a := List.take_of_length_le (by omega)
  rw [h3, show (32 : Nat) = 16 + 16 from rfl, h1] at h2
  generalize a.getD (16 + 15) 0 / 32768 = q at *
  generalize a.getD (16 + 16) 0 = z at *
  have e1 : z = 0 := by
    rcases Nat.eq_zero_or_pos z with h | h
    · exact h
    · have h4 : 1 * 65536 ^ (16 + 16) ≤ z * 65536 ^ (16 + 16) := Nat.mul_le_mul_right _ h
      rw [Nat.one_mul, Nat.pow_add, h255_16] at h4
      rw [Nat.pow_add, h255_16] at h2
      rw [h255_16] at hv
      generalize z * (2 * H255 * (2 * H255)) = zz at *
      generalize hHH : H255 * (2 * H255) = HH at *
      have : 2 * H255 * (2 * H255) = 2 * HH := by rw [← hHH, Nat.mul_assoc]
      omega
  subst e1
  rw [Nat.zero_mul, Nat.add_zero] at h2
  have e2 : q = 0 := by
    rcases Nat.eq_zero_or_pos q with h | h
    · exact h
    · have h4 : H255 * (1 * 65536 ^ 16) ≤ H255 * (q * 65536 ^ 16) := Nat.mul_le_mul_left _ (Nat.mul_le_mul_right _ h)
      rw [Nat.one_mul] at h4
      rw [Nat.mul_add] at h2
      obtain ⟨A, hA⟩ : ∃ A, A = H255 * 65536 ^ 16 := ⟨_, rfl⟩
      obtain ⟨B, hB⟩ : ∃ B, B = H255 * (q * 65536 ^ 16) := ⟨_, rfl⟩
      rw [← hA] at h4 hv
      rw [← hB] at h4 h2
      omega
  rw [h2, e2, Nat.zero_mul, Nat.add_zero]
theorem lowV_lt {a : List Nat} (w : Eg a) : lowV a 16 < H255 := by
  have h1 : lowV a 16 = valE (a.take 15) + alD a 15 * 65536 ^ 15 := by rw [lowV, lowV_take a 15 (Nat.le_refl _)]
  have h2 : valE (a.take 15) < 65536 ^ 15 := by
    have := valE_lt (l := a.take 15) (fun x hx => w x (List.mem_of_mem_take hx))
    exact Nat.lt_of_lt_of_le this (Nat.pow_le_pow_right (by omega) (by rw [List.length_take]; omega))
  have h3 : alD a 15 ≤ 32767 := by unfold alD; rw [if_neg (by omega)]; omega
  rw [h1, ← h255_15]
  have h4 : alD a 15 * 65536 ^ 15 ≤ 32767 * 65536 ^ 15 := Nat.mul_le_mul_right _ h3
  obtain ⟨A, hA⟩ : ∃ A, A = alD a 15 * 65536 ^ 15 := ⟨_, rfl⟩
  rw [← hA] at h4 ⊢
  omega
/-- How big the number is before each turn. -/
def cBd : Nat → Nat
  | 0 => H255 * 65536 ^ 16
  | 1 => H255 + 19 * 65536 ^ 16
  | 2 => H255 + 1000
  | _ => H255
theorem cBd_le (t : Nat) : cBd t ≤ H255 * 65536 ^ 16 := by
  rcases t with _ | _ | _ | t
  · exact Nat.le_refl _
  · decide
  · decide
  · show H255 ≤ _; decide
theorem cut_less {t lo up : Nat} (hlo : lo < H255) (hb : lo + H255 * up < cBd t) : lo + 19 * up < cBd (t + 1) := by
  rcases t with _ | _ | _ | t
  · have h1 : up < 65536 ^ 16 := by
      have : H255 * up < H255 * 65536 ^ 16 := by have : lo + H255 * up < H255 * 65536 ^ 16 := hb; omega
      exact Nat.lt_of_mul_lt_mul_left this
    show lo + 19 * up < H255 + 19 * 65536 ^ 16
    generalize 65536 ^ 16 = A at *
    omega
  · have hb' : lo + H255 * up < H255 + 19 * 65536 ^ 16 := hb
    rw [h255_16] at hb'
    show lo + 19 * up < H255 + 1000
    unfold H255 at *
    omega
  · have hb' : lo + H255 * up < H255 + 1000 := hb
    show lo + 19 * up < H255
    unfold H255 at *
    omega
  · have hb' : lo + H255 * up < H255 := hb
    show lo + 19 * up < H255
    unfold H255 at *
    omega
theorem cut_mod {lo up : Nat} : (lo + 19 * up) % PN = (lo + H255 * up) % PN := by
  have e : lo + H255 * up = (lo + 19 * up) + PN * up := by unfold H255 PN; omega
  rw [e, Nat.add_mul_mod_self_left]
theorem cut_keep {v s : Nat} (hv : v < H255) (hs : s = v + 19) (h : s < H255) : v = v % PN := by
  rw [Nat.mod_eq_of_lt]
  unfold H255 PN at *; omega
theorem cut_drop {v s : Nat} (hv : v < H255) (hs : s = v + 19) (h : H255 ≤ s) : s - H255 = v % PN := by
  have e : v = (s - H255) + PN * 1 := by unfold H255 PN at *; omega
  rw [e, Nat.add_mul_mod_self_left, Nat.mod_eq_of_lt]
  · unfold H255 PN at *; omega
theorem top_digit {s : List Nat} (w : Eg s) (hl : s.length = 17) (hv : valE s < 65536 ^ 16) : s.getD 16 0 = 0 ∧ (32768 ≤ s.getD 15 0 ↔ H255 ≤ valE s) := by
  have h1 := valE_take s 16
  have h2 := valE_take s 15
  have h3 : s.take 17 = s := List.take_of_length_le (by omega)
  rw [show (16 : Nat) + 1 = 17 from rfl, h3] at h1
  have h4 : valE (s.take 15) < 65536 ^ 15 := by
    have := valE_lt (l := s.take 15) (fun x hx => w x (List.mem_of_mem_take hx))
    exact Nat.lt_of_lt_of_le this (Nat.pow_le_pow_right (by omega) (by rw [List.length_take]; omega))
  have h5 : s.getD 16 0 = 0 := by
    rcases Nat.eq_zero_or_pos (s.getD 16 0) with h | h
    · exact h
    · have : 1 * 65536 ^ 16 ≤ s.getD 16 0 * 65536 ^ 16 := Nat.mul_le_mul_right _ h
      omega
  refine ⟨h5, ?_⟩
  rw [h5, Nat.zero_mul, Nat.add_zero, h2] at h1
  rw [h1, ← h255_15]
  generalize s.getD 15 0 = x at *
  generalize 65536 ^ 15 = X at *
  generalize valE (s.take 15) = B at *
  constructor
  · intro h
    have : 32768 * X ≤ x * X := Nat.mul_le_mul_right _ h
    omega
  · intro h
    rcases Nat.lt_or_ge x 32768 with q | q
    · have : x * X ≤ 32767 * X := Nat.mul_le_mul_right _ (by omega)
      omega
    · exact q
theorem set_drop {s : List Nat} (hl : s.length = 17) (h16 : s.getD 16 0 = 0) (h15 : 32768 ≤ s.getD 15 0) : valE ((s.set 15 (s.getD 15 0 - 32768)).take 16) = valE s - H255 := by
  have h1 := valE_set s 15 (s.getD 15 0 - 32768) (by omega)
  have h2 := valE_take (s.set 15 (s.getD 15 0 - 32768)) 16
  have h3 : (s.set 15 (s.getD 15 0 - 32768)).take 17 = s.set 15 (s.getD 15 0 - 32768) := List.take_of_length_le (by rw [List.length_set]; omega)
  have h4 : (s.set 15 (s.getD 15 0 - 32768)).getD 16 0 = 0 := by rw [List.getD_eq_getElem?_getD, List.getElem?_set_ne (by decide), ← List.getD_eq_getElem?_getD]; exact h16
  rw [show (16 : Nat) + 1 = 17 from rfl, h3, h4, Nat.zero_mul, Nat.add_zero] at h2
  rw [← h2]
  generalize s.getD 15 0 = x at *
  have h5 : x * 65536 ^ 15 = (x - 32768) * 65536 ^ 15 + H255 := by
    rw [← h255_15, ← Nat.add_mul]; congr 1; omega
  obtain ⟨A, hA⟩ : ∃ A, A = (x - 32768) * 65536 ^ 15 := ⟨_, rfl⟩
  obtain ⟨B, hB⟩ : ∃ B, B = x * 65536 ^ 15 := ⟨_, rfl⟩
  rw [← hA] at h1 h5
  rw [← hB] at h1 h5
  omega
theorem take_val {s : List Nat} (h16 : s.getD 16 0 = 0) (hl : s.length = 17) : valE (s.take 16) = valE s := by
  have h2 := valE_take s 16
  rw [show (16 : Nat) + 1 = 17 from rfl, List.take_of_length_le (l := s) (i := 17) (by omega), h16, Nat.zero_mul, Nat.add_zero] at h2
  exact h2.symm
/-- A number below 2^255 - 19 in sixteen digits. -/
def Cn (o : List Nat) : Prop := o.length = 16 ∧ Eg o ∧ valE o < PN
theorem Eg.take {l : List Nat} (w : Eg l) (i : Nat) : Eg (l.take i) := fun x hx => w x (List.mem_of_mem_take hx)
theorem IO.fore {B : Nat} {h : Hp} {p : Option Addr} {c : Nat} {l : List Nat} {n : Nat} (hn : l.length = n) (s : IO B h (.slice p n c) l) {m : Nat} (hm : m ≤ l.length) : IO B h (.slice p m c) (l.take m) := by
  subst hn
  have := Own.fore s.own hm
  refine ⟨?_⟩
  rw [encs_one] at this ⊢
  rw [Nat.mul_one, ← List.map_take] at this
  rwa [List.length_take, Nat.min_eq_left hm]

set_option maxHeartbeats 4000000 in
theorem curveCut_ok (T : World) (h : Hp) (va : Value) (a0 : List Nat) (s : IT h va a0) (w : Eg a0) (hl0 : 16 ≤ a0.length) (hl1 : a0.length ≤ 33) (hv0 : valE a0 < H255 * 65536 ^ 16) :
    CallsH Try.prog T 59 #[va] h fun v' h' => (∃ o, IO h.size h' v' o ∧ Cn o ∧ valE o = valE a0 % PN) ∧ Bel h.size h h' := by
  refine CallsH.of_code' (args := [_]) Try.func59 rfl rfl rfl rfl ?_
  simp (config := {maxSteps := 2000000, implicitDefEqProofs := false}) only [go_sem, ↓reduceIte, Nat.reduceEqDiff, Nat.reduceAdd, Nat.reduceMul, Nat.reduceLeDiff, Nat.reduceLT, Nat.reduceSub, IntWalk.iteOmega, IntWalk.toNatUp, reduceCtorEq, false_and, and_false, false_or, or_false, true_or, or_true, not_true_eq_false, not_false_eq_true, Bool.not_true, Bool.not_false, Bool.and_true, Bool.true_and, Bool.and_false, Bool.false_and, Bool.not_eq_true, beq_self_eq_true, Nat.add_zero, Int.reduceLE, Int.reduceLT, Int.reduceToNat, Int.reduceNeg]
  refine VS.loop' (fun F g => Bel h.size h g ∧ ∃ (t : Nat) (a : List Nat), t ≤ 4 ∧ F 3 = .int .i64 t ∧ IT g (F 0) a ∧ (0 < t → IO h.size g (F 0) a ∧ a.length = 17) ∧ Eg a ∧ valE a % PN = valE a0 % PN ∧ valE a < cBd t ∧ 16 ≤ a.length ∧ a.length ≤ 33)
    (fun F _ => 4 - (vi (F 3)).toNat) rfl ⟨Bel.refl _ _, 0, a0, by omega, rfl, s, fun h => (Nat.lt_irrefl _ h).elim, w, rfl, hv0, hl0, hl1⟩ ?_
  rintro F g ⟨hg, t, a, ht, f3, sa, oa, wa, hmod, hbd, hlo, hhi⟩
  by_cases hlt : t < 4
  · have hlt' : (t : Int) < 4 := by omega
    obtain ⟨p, cp, hf0, hca⟩ := nv_open sa
    obtain ⟨ba, oa', rfl, hba, hca⟩ := hca (by intro e; rw [e] at hlo; simp at hlo)
    simp (config := {maxSteps := 2000000, implicitDefEqProofs := false}) only [go_sem, ↓reduceIte, Nat.reduceEqDiff, Nat.reduceAdd, Nat.reduceMul, Nat.reduceLeDiff, Nat.reduceLT, Nat.reduceSub, IntWalk.iteOmega, IntWalk.toNatUp, reduceCtorEq, false_and, and_false, false_or, or_false, true_or, or_true, not_true_eq_false, not_false_eq_true, Bool.not_true, Bool.not_false, Bool.and_true, Bool.true_and, Bool.and_false, Bool.false_and, Bool.not_eq_true, beq_self_eq_true, Nat.add_zero, Int.reduceLE, Int.reduceLT, Int.reduceToNat, Int.reduceNeg, f3, hlt']
    refine VS.loop' (fun F g' => Bel h.size h g' ∧ Bel g.size g g' ∧ F 3 = .int .i64 t ∧ F 0 = .slice (some ⟨ba, oa', none⟩) a.length cp ∧ ∃ (i c : Nat) (o : List Nat), i ≤ 16 ∧ c ≤ 20 ∧ o.length = i ∧ F 6 = .int .i64 i ∧ F 5 = .int .i64 c ∧ IO g.size g' (F 4) o ∧ Eg o ∧ valE o + c * 65536 ^ i = lowV a i + 19 * upV a i)
      (fun F _ => 16 - (vi (F 6)).toNat) rfl ⟨hg, Bel.refl _ _, f3, hf0, 0, 0, [], by omega, by omega, rfl, rfl, rfl, Ots.nil _ _ _ _ _, Eg.nil, by simp [valE, lowV, upV]⟩ ?_
    clear f3 hf0 oa sa
    rename_i F0 
    have hsz0 := hg.size
    rintro F g' ⟨hg1, hgg, f3, f0, i, c, o, hi, hc, hoi, f6, f5, ho, wo, hv⟩
    by_cases hl16 : i < 16
    · have hl16' : (i : Int) < 16 := by omega
      have hil : (i : Int) < (a.length : Int) := by omega
      have gx : V.hc g' ⟨ba, oa' + i, none⟩ = some (.int .i64 (a.getD i 0 : Nat)) := by rw [hgg.hc (by exact hba)]; exact hca i (by omega)
      have hx := wa.getD i
      have hy := wa.getD (i + 15)
      have hz := wa.getD (i + 16)
      obtain ⟨x, hxx⟩ : ∃ x, x = a.getD i 0 := ⟨_, rfl⟩
      obtain ⟨y, hyy⟩ : ∃ y, y = a.getD (i + 15) 0 := ⟨_, rfl⟩
      obtain ⟨z, hzz⟩ : ∃ z, z = a.getD (i + 16) 0 := ⟨_, rfl⟩
      rw [← hxx] at gx hx
      rw [← hyy] at hy
      rw [← hzz] at hz
      have e15 : (i : Int) + 15 = ((i + 15 : Nat) : Int) := rfl
      have e16 : (i : Int) + 16 = ((i + 16 : Nat) : Int) := rfl
      have hup : upD a i = y / 32768 + z % 32768 * 2 := by unfold upD; rw [← hyy, ← hzz]
      have ey : ((y : Nat) : Int).tdiv 32768 = ((y / 32768 : Nat) : Int) := rfl
      have ez : ((z : Nat) : Int).tmod 32768 = ((z % 32768 : Nat) : Int) := rfl
      have ez2 : ((z % 32768 : Nat) : Int) * 2 = ((z % 32768 * 2 : Nat) : Int) := by omega
      have eyz : ((y / 32768 : Nat) : Int) + ((z % 32768 * 2 : Nat) : Int) = ((y / 32768 + z % 32768 * 2 : Nat) : Int) := by omega
      obtain ⟨u, hu⟩ : ∃ u, u = y / 32768 + z % 32768 * 2 := ⟨_, rfl⟩
      have hub : u ≤ 65535 := by omega
      rw [← hu] at hup eyz
      have eu : 19 * (u : Int) = ((19 * u : Nat) : Int) := by omega
      by_cases h15 : i < 15
      · by_cases hu15 : i + 15 < a.length
        · by_cases hu16 : i + 16 < a.length
          · have c15 : (i : Int) < 15 := by omega
            have n15 : ¬ (i : Int) = 15 := by omega
            have hal : alD a i = x := by unfold alD; rw [if_pos h15, hxx]
            have el : (c : Int) + (x : Int) = ((c + x : Nat) : Int) := by omega
            obtain ⟨m, hm⟩ : ∃ m, m = c + x := ⟨_, rfl⟩
            rw [← hm] at el
            have em2 : (m : Int) + ((19 * u : Nat) : Int) = ((m + 19 * u : Nat) : Int) := by omega
            obtain ⟨t2, ht2⟩ : ∃ t, t = m + 19 * u := ⟨_, rfl⟩
            rw [← ht2] at em2
            have hs := cut_turn (t := t2) hoi hv (by rw [hal, hup]; omega)
            have htb : t2 ≤ 1310720 := by omega
            have em : ((t2 : Nat) : Int).tmod 65536 = ((t2 % 65536 : Nat) : Int) := rfl
            have ed : ((t2 : Nat) : Int).tdiv 65536 = ((t2 / 65536 : Nat) : Int) := rfl
            have u15 : ((i + 15 : Nat) : Int) < (a.length : Int) := by omega
            have u16 : ((i + 16 : Nat) : Int) < (a.length : Int) := by omega
            have gy : V.hc g' ⟨ba, oa' + (i + 15), none⟩ = some (.int .i64 (y : Nat)) := by rw [hgg.hc (by exact hba), hyy]; exact hca _ (by omega)
            have gz : V.hc g' ⟨ba, oa' + (i + 16), none⟩ = some (.int .i64 (z : Nat)) := by rw [hgg.hc (by exact hba), hzz]; exact hca _ (by omega)
            simp (config := {maxSteps := 2000000, implicitDefEqProofs := false}) only [go_sem, ↓reduceIte, Nat.reduceEqDiff, Nat.reduceAdd, Nat.reduceMul, Nat.reduceLeDiff, Nat.reduceLT, Nat.reduceSub, IntWalk.iteOmega, IntWalk.toNatUp, reduceCtorEq, false_and, and_false, false_or, or_false, true_or, or_true, not_true_eq_false, not_false_eq_true, Bool.not_true, Bool.not_false, Bool.and_true, Bool.true_and, Bool.and_false, Bool.false_and, Bool.not_eq_true, beq_self_eq_true, Nat.add_zero, Int.reduceLE, Int.reduceLT, Int.reduceToNat, Int.reduceNeg, f0, f3, f5, f6, hl16', hil, gx, c15, n15, el, e15, e16, u15, u16, gy, gz, ey, ez, ez2, eyz, eu, em2, em, ed, Int.toNat_natCast]
            refine append_ts (E := 3) (B := g.size) (n := 1) (bytes := 8) tsl72 Try.underlying72 tn3 tz3 rfl tb3 (fun _ => rfl) (ho.push _) (by have := hgg.size; simp; omega) (Ts.one (enc := fun x => [nv x]) (t2 % 65536) (fun _ => rfl) 1) ?_ (by omega) ?_
            · simp only [List.length_singleton]; omega
            intro v' h' ho' hb2 _
            simp (config := {maxSteps := 2000000, implicitDefEqProofs := false}) only [go_sem, ↓reduceIte, Nat.reduceEqDiff, Nat.reduceAdd, Nat.reduceMul, Nat.reduceLeDiff, Nat.reduceLT, Nat.reduceSub, IntWalk.iteOmega, IntWalk.toNatUp, reduceCtorEq, false_and, and_false, false_or, or_false, true_or, or_true, not_true_eq_false, not_false_eq_true, Bool.not_true, Bool.not_false, Bool.and_true, Bool.true_and, Bool.and_false, Bool.false_and, Bool.not_eq_true, beq_self_eq_true, Nat.add_zero, Int.reduceLE, Int.reduceLT, Int.reduceToNat, Int.reduceNeg, f0, f3, f5, f6, ed]
            have bb2 : Bel g.size g h' := (hgg.addP hgg.size _).trans hb2
            refine ⟨⟨hg.trans (bb2.mono hsz0), bb2, f3, f0, i + 1, t2 / 65536, o ++ [t2 % 65536], by omega, by omega, by rw [List.length_append, hoi]; rfl, rfl, rfl, ho', wo.snoc (by omega), hs⟩, ?_⟩
            simp only [vi, updo_some, ↓reduceIte, f6]; omega
          · have c15 : (i : Int) < 15 := by omega
            have n15 : ¬ (i : Int) = 15 := by omega
            have hal : alD a i = x := by unfold alD; rw [if_pos h15, hxx]
            have el : (c : Int) + (x : Int) = ((c + x : Nat) : Int) := by omega
            obtain ⟨m, hm⟩ : ∃ m, m = c + x := ⟨_, rfl⟩
            rw [← hm] at el
            have em2 : (m : Int) + ((19 * u : Nat) : Int) = ((m + 19 * u : Nat) : Int) := by omega
            obtain ⟨t2, ht2⟩ : ∃ t, t = m + 19 * u := ⟨_, rfl⟩
            rw [← ht2] at em2
            have hs := cut_turn (t := t2) hoi hv (by rw [hal, hup]; omega)
            have htb : t2 ≤ 1310720 := by omega
            have em : ((t2 : Nat) : Int).tmod 65536 = ((t2 % 65536 : Nat) : Int) := rfl
            have ed : ((t2 : Nat) : Int).tdiv 65536 = ((t2 / 65536 : Nat) : Int) := rfl
            have u15 : ((i + 15 : Nat) : Int) < (a.length : Int) := by omega
            have u16 : ¬ ((i + 16 : Nat) : Int) < (a.length : Int) := by omega
            have gy : V.hc g' ⟨ba, oa' + (i + 15), none⟩ = some (.int .i64 (y : Nat)) := by rw [hgg.hc (by exact hba), hyy]; exact hca _ (by omega)
            have z0 : z = 0 := by rw [hzz]; exact getD_none (by omega)
            have hu1 : y / 32768 = u := by rw [hu, z0]; omega
            rw [hu1] at ey
            simp (config := {maxSteps := 2000000, implicitDefEqProofs := false}) only [go_sem, ↓reduceIte, Nat.reduceEqDiff, Nat.reduceAdd, Nat.reduceMul, Nat.reduceLeDiff, Nat.reduceLT, Nat.reduceSub, IntWalk.iteOmega, IntWalk.toNatUp, reduceCtorEq, false_and, and_false, false_or, or_false, true_or, or_true, not_true_eq_false, not_false_eq_true, Bool.not_true, Bool.not_false, Bool.and_true, Bool.true_and, Bool.and_false, Bool.false_and, Bool.not_eq_true, beq_self_eq_true, Nat.add_zero, Int.reduceLE, Int.reduceLT, Int.reduceToNat, Int.reduceNeg, f0, f3, f5, f6, hl16', hil, gx, c15, n15, el, e15, e16, u15, u16, gy, ey, eu, em2, em, ed, Int.toNat_natCast]
            refine append_ts (E := 3) (B := g.size) (n := 1) (bytes := 8) tsl72 Try.underlying72 tn3 tz3 rfl tb3 (fun _ => rfl) (ho.push _) (by have := hgg.size; simp; omega) (Ts.one (enc := fun x => [nv x]) (t2 % 65536) (fun _ => rfl) 1) ?_ (by omega) ?_
            · simp only [List.length_singleton]; omega
            intro v' h' ho' hb2 _
            simp (config := {maxSteps := 2000000, implicitDefEqProofs := false}) only [go_sem, ↓reduceIte, Nat.reduceEqDiff, Nat.reduceAdd, Nat.reduceMul, Nat.reduceLeDiff, Nat.reduceLT, Nat.reduceSub, IntWalk.iteOmega, IntWalk.toNatUp, reduceCtorEq, false_and, and_false, false_or, or_false, true_or, or_true, not_true_eq_false, not_false_eq_true, Bool.not_true, Bool.not_false, Bool.and_true, Bool.true_and, Bool.and_false, Bool.false_and, Bool.not_eq_true, beq_self_eq_true, Nat.add_zero, Int.reduceLE, Int.reduceLT, Int.reduceToNat, Int.reduceNeg, f0, f3, f5, f6, ed]
            have bb2 : Bel g.size g h' := (hgg.addP hgg.size _).trans hb2
            refine ⟨⟨hg.trans (bb2.mono hsz0), bb2, f3, f0, i + 1, t2 / 65536, o ++ [t2 % 65536], by omega, by omega, by rw [List.length_append, hoi]; rfl, rfl, rfl, ho', wo.snoc (by omega), hs⟩, ?_⟩
            simp only [vi, updo_some, ↓reduceIte, f6]; omega
        · have c15 : (i : Int) < 15 := by omega
          have n15 : ¬ (i : Int) = 15 := by omega
          have hal : alD a i = x := by unfold alD; rw [if_pos h15, hxx]
          have el : (c : Int) + (x : Int) = ((c + x : Nat) : Int) := by omega
          obtain ⟨m, hm⟩ : ∃ m, m = c + x := ⟨_, rfl⟩
          rw [← hm] at el
          have em2 : (m : Int) + ((19 * u : Nat) : Int) = ((m + 19 * u : Nat) : Int) := by omega
          obtain ⟨t2, ht2⟩ : ∃ t, t = m + 19 * u := ⟨_, rfl⟩
          rw [← ht2] at em2
          have hs := cut_turn (t := t2) hoi hv (by rw [hal, hup]; omega)
          have htb : t2 ≤ 1310720 := by omega
          have em : ((t2 : Nat) : Int).tmod 65536 = ((t2 % 65536 : Nat) : Int) := rfl
          have ed : ((t2 : Nat) : Int).tdiv 65536 = ((t2 / 65536 : Nat) : Int) := rfl
          have u15 : ¬ ((i + 15 : Nat) : Int) < (a.length : Int) := by omega
          have u16 : ¬ ((i + 16 : Nat) : Int) < (a.length : Int) := by omega
          have z0 : z = 0 := by rw [hzz]; exact getD_none (by omega)
          have y0 : y = 0 := by rw [hyy]; exact getD_none (by omega)
          have hu0 : u = 0 := by rw [hu, z0, y0]
          have e19 : (19 : Int) * 0 = ((19 * u : Nat) : Int) := by rw [hu0]; rfl
          simp (config := {maxSteps := 2000000, implicitDefEqProofs := false}) only [go_sem, ↓reduceIte, Nat.reduceEqDiff, Nat.reduceAdd, Nat.reduceMul, Nat.reduceLeDiff, Nat.reduceLT, Nat.reduceSub, IntWalk.iteOmega, IntWalk.toNatUp, reduceCtorEq, false_and, and_false, false_or, or_false, true_or, or_true, not_true_eq_false, not_false_eq_true, Bool.not_true, Bool.not_false, Bool.and_true, Bool.true_and, Bool.and_false, Bool.false_and, Bool.not_eq_true, beq_self_eq_true, Nat.add_zero, Int.reduceLE, Int.reduceLT, Int.reduceToNat, Int.reduceNeg, f0, f3, f5, f6, hl16', hil, gx, c15, n15, el, e15, e16, u15, u16, e19, em2, em, ed, Int.toNat_natCast]
          refine append_ts (E := 3) (B := g.size) (n := 1) (bytes := 8) tsl72 Try.underlying72 tn3 tz3 rfl tb3 (fun _ => rfl) (ho.push _) (by have := hgg.size; simp; omega) (Ts.one (enc := fun x => [nv x]) (t2 % 65536) (fun _ => rfl) 1) ?_ (by omega) ?_
          · simp only [List.length_singleton]; omega
          intro v' h' ho' hb2 _
          simp (config := {maxSteps := 2000000, implicitDefEqProofs := false}) only [go_sem, ↓reduceIte, Nat.reduceEqDiff, Nat.reduceAdd, Nat.reduceMul, Nat.reduceLeDiff, Nat.reduceLT, Nat.reduceSub, IntWalk.iteOmega, IntWalk.toNatUp, reduceCtorEq, false_and, and_false, false_or, or_false, true_or, or_true, not_true_eq_false, not_false_eq_true, Bool.not_true, Bool.not_false, Bool.and_true, Bool.true_and, Bool.and_false, Bool.false_and, Bool.not_eq_true, beq_self_eq_true, Nat.add_zero, Int.reduceLE, Int.reduceLT, Int.reduceToNat, Int.reduceNeg, f0, f3, f5, f6, ed]
          have bb2 : Bel g.size g h' := (hgg.addP hgg.size _).trans hb2
          refine ⟨⟨hg.trans (bb2.mono hsz0), bb2, f3, f0, i + 1, t2 / 65536, o ++ [t2 % 65536], by omega, by omega, by rw [List.length_append, hoi]; rfl, rfl, rfl, ho', wo.snoc (by omega), hs⟩, ?_⟩
          simp only [vi, updo_some, ↓reduceIte, f6]; omega
      · by_cases hu15 : i + 15 < a.length
        · by_cases hu16 : i + 16 < a.length
          · have c15 : ¬ (i : Int) < 15 := by omega
            obtain rfl : i = 15 := by omega
            have n15 : ((15 : Nat) : Int) = 15 := rfl
            rw [n15] at *
            have hal : alD a 15 = x % 32768 := by unfold alD; rw [if_neg (by omega), hxx]
            have exm : ((x : Nat) : Int).tmod 32768 = ((x % 32768 : Nat) : Int) := rfl
            have el : (c : Int) + ((x % 32768 : Nat) : Int) = ((c + x % 32768 : Nat) : Int) := by omega
            obtain ⟨m, hm⟩ : ∃ m, m = c + x % 32768 := ⟨_, rfl⟩
            rw [← hm] at el
            have em2 : (m : Int) + ((19 * u : Nat) : Int) = ((m + 19 * u : Nat) : Int) := by omega
            obtain ⟨t2, ht2⟩ : ∃ t, t = m + 19 * u := ⟨_, rfl⟩
            rw [← ht2] at em2
            have hs := cut_turn (t := t2) hoi hv (by rw [hal, hup]; omega)
            have htb : t2 ≤ 1310720 := by omega
            have em : ((t2 : Nat) : Int).tmod 65536 = ((t2 % 65536 : Nat) : Int) := rfl
            have ed : ((t2 : Nat) : Int).tdiv 65536 = ((t2 / 65536 : Nat) : Int) := rfl
            have u15 : ((15 + 15 : Nat) : Int) < (a.length : Int) := by omega
            have u16 : ((15 + 16 : Nat) : Int) < (a.length : Int) := by omega
            have gy : V.hc g' ⟨ba, oa' + (15 + 15), none⟩ = some (.int .i64 (y : Nat)) := by rw [hgg.hc (by exact hba), hyy]; exact hca _ (by omega)
            have gz : V.hc g' ⟨ba, oa' + (15 + 16), none⟩ = some (.int .i64 (z : Nat)) := by rw [hgg.hc (by exact hba), hzz]; exact hca _ (by omega)
            have e15' : (15 : Int) + 15 = ((15 + 15 : Nat) : Int) := rfl
            have e16' : (15 : Int) + 16 = ((15 + 16 : Nat) : Int) := rfl
            have t15 : (15 : Int).toNat = 15 := rfl
            simp (config := {maxSteps := 2000000, implicitDefEqProofs := false}) only [go_sem, ↓reduceIte, Nat.reduceEqDiff, Nat.reduceAdd, Nat.reduceMul, Nat.reduceLeDiff, Nat.reduceLT, Nat.reduceSub, IntWalk.iteOmega, IntWalk.toNatUp, reduceCtorEq, false_and, and_false, false_or, or_false, true_or, or_true, not_true_eq_false, not_false_eq_true, Bool.not_true, Bool.not_false, Bool.and_true, Bool.true_and, Bool.and_false, Bool.false_and, Bool.not_eq_true, beq_self_eq_true, Nat.add_zero, Int.reduceLE, Int.reduceLT, Int.reduceToNat, Int.reduceNeg, f0, f3, f5, f6, hl16', hil, gx, c15, n15, exm, el, e15', e16', t15, u15, u16, gy, gz, ey, ez, ez2, eyz, eu, em2, em, ed, Int.toNat_natCast]
            refine append_ts (E := 3) (B := g.size) (n := 1) (bytes := 8) tsl72 Try.underlying72 tn3 tz3 rfl tb3 (fun _ => rfl) (ho.push _) (by have := hgg.size; simp; omega) (Ts.one (enc := fun x => [nv x]) (t2 % 65536) (fun _ => rfl) 1) ?_ (by omega) ?_
            · simp only [List.length_singleton]; omega
            intro v' h' ho' hb2 _
            simp (config := {maxSteps := 2000000, implicitDefEqProofs := false}) only [go_sem, ↓reduceIte, Nat.reduceEqDiff, Nat.reduceAdd, Nat.reduceMul, Nat.reduceLeDiff, Nat.reduceLT, Nat.reduceSub, IntWalk.iteOmega, IntWalk.toNatUp, reduceCtorEq, false_and, and_false, false_or, or_false, true_or, or_true, not_true_eq_false, not_false_eq_true, Bool.not_true, Bool.not_false, Bool.and_true, Bool.true_and, Bool.and_false, Bool.false_and, Bool.not_eq_true, beq_self_eq_true, Nat.add_zero, Int.reduceLE, Int.reduceLT, Int.reduceToNat, Int.reduceNeg, f0, f3, f5, f6, ed]
            have bb2 : Bel g.size g h' := (hgg.addP hgg.size _).trans hb2
            refine ⟨⟨hg.trans (bb2.mono hsz0), bb2, f3, f0, 15 + 1, t2 / 65536, o ++ [t2 % 65536], by omega, by omega, by rw [List.length_append, hoi]; rfl, rfl, rfl, ho', wo.snoc (by omega), hs⟩, ?_⟩
            simp only [vi, updo_some, ↓reduceIte, f6]; omega
          · have c15 : ¬ (i : Int) < 15 := by omega
            obtain rfl : i = 15 := by omega
            have n15 : ((15 : Nat) : Int) = 15 := rfl
            rw [n15] at *
            have hal : alD a 15 = x % 32768 := by unfold alD; rw [if_neg (by omega), hxx]
            have exm : ((x : Nat) : Int).tmod 32768 = ((x % 32768 : Nat) : Int) := rfl
            have el : (c : Int) + ((x % 32768 : Nat) : Int) = ((c + x % 32768 : Nat) : Int) := by omega
            obtain ⟨m, hm⟩ : ∃ m, m = c + x % 32768 := ⟨_, rfl⟩
            rw [← hm] at el
            have em2 : (m : Int) + ((19 * u : Nat) : Int) = ((m + 19 * u : Nat) : Int) := by omega
            obtain ⟨t2, ht2⟩ : ∃ t, t = m + 19 * u := ⟨_, rfl⟩
            rw [← ht2] at em2
            have hs := cut_turn (t := t2) hoi hv (by rw [hal, hup]; omega)
            have htb : t2 ≤ 1310720 := by omega
            have em : ((t2 : Nat) : Int).tmod 65536 = ((t2 % 65536 : Nat) : Int) := rfl
            have ed : ((t2 : Nat) : Int).tdiv 65536 = ((t2 / 65536 : Nat) : Int) := rfl
            have u15 : ((15 + 15 : Nat) : Int) < (a.length : Int) := by omega
            have u16 : ¬ ((15 + 16 : Nat) : Int) < (a.length : Int) := by omega
            have gy : V.hc g' ⟨ba, oa' + (15 + 15), none⟩ = some (.int .i64 (y : Nat)) := by rw [hgg.hc (by exact hba), hyy]; exact hca _ (by omega)
            have z0 : z = 0 := by rw [hzz]; exact getD_none (by omega)
            have hu1 : y / 32768 = u := by rw [hu, z0]; omega
            rw [hu1] at ey
            have e15' : (15 : Int) + 15 = ((15 + 15 : Nat) : Int) := rfl
            have e16' : (15 : Int) + 16 = ((15 + 16 : Nat) : Int) := rfl
            have t15 : (15 : Int).toNat = 15 := rfl
            simp (config := {maxSteps := 2000000, implicitDefEqProofs := false}) only [go_sem, ↓reduceIte, Nat.reduceEqDiff, Nat.reduceAdd, Nat.reduceMul, Nat.reduceLeDiff, Nat.reduceLT, Nat.reduceSub, IntWalk.iteOmega, IntWalk.toNatUp, reduceCtorEq, false_and, and_false, false_or, or_false, true_or, or_true, not_true_eq_false, not_false_eq_true, Bool.not_true, Bool.not_false, Bool.and_true, Bool.true_and, Bool.and_false, Bool.false_and, Bool.not_eq_true, beq_self_eq_true, Nat.add_zero, Int.reduceLE, Int.reduceLT, Int.reduceToNat, Int.reduceNeg, f0, f3, f5, f6, hl16', hil, gx, c15, n15, exm, el, e15', e16', t15, u15, u16, gy, ey, eu, em2, em, ed, Int.toNat_natCast]
            refine append_ts (E := 3) (B := g.size) (n := 1) (bytes := 8) tsl72 Try.underlying72 tn3 tz3 rfl tb3 (fun _ => rfl) (ho.push _) (by have := hgg.size; simp; omega) (Ts.one (enc := fun x => [nv x]) (t2 % 65536) (fun _ => rfl) 1) ?_ (by omega) ?_
            · simp only [List.length_singleton]; omega
            intro v' h' ho' hb2 _
            simp (config := {maxSteps := 2000000, implicitDefEqProofs := false}) only [go_sem, ↓reduceIte, Nat.reduceEqDiff, Nat.reduceAdd, Nat.reduceMul, Nat.reduceLeDiff, Nat.reduceLT, Nat.reduceSub, IntWalk.iteOmega, IntWalk.toNatUp, reduceCtorEq, false_and, and_false, false_or, or_false, true_or, or_true, not_true_eq_false, not_false_eq_true, Bool.not_true, Bool.not_false, Bool.and_true, Bool.true_and, Bool.and_false, Bool.false_and, Bool.not_eq_true, beq_self_eq_true, Nat.add_zero, Int.reduceLE, Int.reduceLT, Int.reduceToNat, Int.reduceNeg, f0, f3, f5, f6, ed]
            have bb2 : Bel g.size g h' := (hgg.addP hgg.size _).trans hb2
            refine ⟨⟨hg.trans (bb2.mono hsz0), bb2, f3, f0, 15 + 1, t2 / 65536, o ++ [t2 % 65536], by omega, by omega, by rw [List.length_append, hoi]; rfl, rfl, rfl, ho', wo.snoc (by omega), hs⟩, ?_⟩
            simp only [vi, updo_some, ↓reduceIte, f6]; omega
        · have c15 : ¬ (i : Int) < 15 := by omega
          obtain rfl : i = 15 := by omega
          have n15 : ((15 : Nat) : Int) = 15 := rfl
          rw [n15] at *
          have hal : alD a 15 = x % 32768 := by unfold alD; rw [if_neg (by omega), hxx]
          have exm : ((x : Nat) : Int).tmod 32768 = ((x % 32768 : Nat) : Int) := rfl
          have el : (c : Int) + ((x % 32768 : Nat) : Int) = ((c + x % 32768 : Nat) : Int) := by omega
          obtain ⟨m, hm⟩ : ∃ m, m = c + x % 32768 := ⟨_, rfl⟩
          rw [← hm] at el
          have em2 : (m : Int) + ((19 * u : Nat) : Int) = ((m + 19 * u : Nat) : Int) := by omega
          obtain ⟨t2, ht2⟩ : ∃ t, t = m + 19 * u := ⟨_, rfl⟩
          rw [← ht2] at em2
          have hs := cut_turn (t := t2) hoi hv (by rw [hal, hup]; omega)
          have htb : t2 ≤ 1310720 := by omega
          have em : ((t2 : Nat) : Int).tmod 65536 = ((t2 % 65536 : Nat) : Int) := rfl
          have ed : ((t2 : Nat) : Int).tdiv 65536 = ((t2 / 65536 : Nat) : Int) := rfl
          have u15 : ¬ ((15 + 15 : Nat) : Int) < (a.length : Int) := by omega
          have u16 : ¬ ((15 + 16 : Nat) : Int) < (a.length : Int) := by omega
          have z0 : z = 0 := by rw [hzz]; exact getD_none (by omega)
          have y0 : y = 0 := by rw [hyy]; exact getD_none (by omega)
          have hu0 : u = 0 := by rw [hu, z0, y0]
          have e19 : (19 : Int) * 0 = ((19 * u : Nat) : Int) := by rw [hu0]; rfl
          have e15' : (15 : Int) + 15 = ((15 + 15 : Nat) : Int) := rfl
          have e16' : (15 : Int) + 16 = ((15 + 16 : Nat) : Int) := rfl
          have t15 : (15 : Int).toNat = 15 := rfl
          simp (config := {maxSteps := 2000000, implicitDefEqProofs := false}) only [go_sem, ↓reduceIte, Nat.reduceEqDiff, Nat.reduceAdd, Nat.reduceMul, Nat.reduceLeDiff, Nat.reduceLT, Nat.reduceSub, IntWalk.iteOmega, IntWalk.toNatUp, reduceCtorEq, false_and, and_false, false_or, or_false, true_or, or_true, not_true_eq_false, not_false_eq_true, Bool.not_true, Bool.not_false, Bool.and_true, Bool.true_and, Bool.and_false, Bool.false_and, Bool.not_eq_true, beq_self_eq_true, Nat.add_zero, Int.reduceLE, Int.reduceLT, Int.reduceToNat, Int.reduceNeg, f0, f3, f5, f6, hl16', hil, gx, c15, n15, exm, el, e15', e16', t15, u15, u16, e19, em2, em, ed, Int.toNat_natCast]
          refine append_ts (E := 3) (B := g.size) (n := 1) (bytes := 8) tsl72 Try.underlying72 tn3 tz3 rfl tb3 (fun _ => rfl) (ho.push _) (by have := hgg.size; simp; omega) (Ts.one (enc := fun x => [nv x]) (t2 % 65536) (fun _ => rfl) 1) ?_ (by omega) ?_
          · simp only [List.length_singleton]; omega
          intro v' h' ho' hb2 _
          simp (config := {maxSteps := 2000000, implicitDefEqProofs := false}) only [go_sem, ↓reduceIte, Nat.reduceEqDiff, Nat.reduceAdd, Nat.reduceMul, Nat.reduceLeDiff, Nat.reduceLT, Nat.reduceSub, IntWalk.iteOmega, IntWalk.toNatUp, reduceCtorEq, false_and, and_false, false_or, or_false, true_or, or_true, not_true_eq_false, not_false_eq_true, Bool.not_true, Bool.not_false, Bool.and_true, Bool.true_and, Bool.and_false, Bool.false_and, Bool.not_eq_true, beq_self_eq_true, Nat.add_zero, Int.reduceLE, Int.reduceLT, Int.reduceToNat, Int.reduceNeg, f0, f3, f5, f6, ed]
          have bb2 : Bel g.size g h' := (hgg.addP hgg.size _).trans hb2
          refine ⟨⟨hg.trans (bb2.mono hsz0), bb2, f3, f0, 15 + 1, t2 / 65536, o ++ [t2 % 65536], by omega, by omega, by rw [List.length_append, hoi]; rfl, rfl, rfl, ho', wo.snoc (by omega), hs⟩, ?_⟩
          simp only [vi, updo_some, ↓reduceIte, f6]; omega
    · have hge : ¬ (i : Int) < 16 := by omega
      obtain rfl : i = 16 := by omega
      have c16 : ((16 : Nat) : Int) = 16 := rfl
      rw [c16] at f6
      simp (config := {maxSteps := 2000000, implicitDefEqProofs := false}) only [go_sem, ↓reduceIte, Nat.reduceEqDiff, Nat.reduceAdd, Nat.reduceMul, Nat.reduceLeDiff, Nat.reduceLT, Nat.reduceSub, IntWalk.iteOmega, IntWalk.toNatUp, reduceCtorEq, false_and, and_false, false_or, or_false, true_or, or_true, not_true_eq_false, not_false_eq_true, Bool.not_true, Bool.not_false, Bool.and_true, Bool.true_and, Bool.and_false, Bool.false_and, Bool.not_eq_true, beq_self_eq_true, Nat.add_zero, Int.reduceLE, Int.reduceLT, Int.reduceToNat, Int.reduceNeg, f0, f3, f5, f6]
      have wc : Eg (o ++ [c]) := wo.snoc (by omega)
      refine append_ts (E := 3) (B := h.size) (n := 1) (bytes := 8) tsl72 Try.underlying72 tn3 tz3 rfl tb3 (fun _ => rfl) ((ho.mono hsz0).push _) (by have := hg1.size; simp; omega) (Ts.one (enc := fun x => [nv x]) c (fun _ => rfl) 1) ?_ (by omega) ?_
      · simp only [List.length_singleton]; omega
      intro v' g2 ho' hb2 _
      simp (config := {maxSteps := 2000000, implicitDefEqProofs := false}) only [go_sem, ↓reduceIte, Nat.reduceEqDiff, Nat.reduceAdd, Nat.reduceMul, Nat.reduceLeDiff, Nat.reduceLT, Nat.reduceSub, IntWalk.iteOmega, IntWalk.toNatUp, reduceCtorEq, false_and, and_false, false_or, or_false, true_or, or_true, not_true_eq_false, not_false_eq_true, Bool.not_true, Bool.not_false, Bool.and_true, Bool.true_and, Bool.and_false, Bool.false_and, Bool.not_eq_true, beq_self_eq_true, Nat.add_zero, Int.reduceLE, Int.reduceLT, Int.reduceToNat, Int.reduceNeg, f3]
      have hvn : valE (o ++ [c]) = lowV a 16 + 19 * upV a 16 := by rw [valE_snoc, hoi, hv]
      have hpar := cut_parts hhi (Nat.lt_of_lt_of_le hbd (cBd_le t))
      have hlow := lowV_lt wa
      have hlen : (o ++ [c]).length = 17 := by rw [List.length_append, hoi]; rfl
      refine ⟨⟨(hg1.addP hg1.size _).trans hb2, t + 1, o ++ [c], hlt, rfl, ho'.ts, fun _ => ⟨ho', hlen⟩, wc, ?_, ?_, by omega, by omega⟩, ?_⟩
      · rw [hvn, cut_mod, ← hpar, hmod]
      · rw [hvn]; exact cut_less hlow (by rw [← hpar]; exact hbd)
      · simp only [vi, updo_some, ↓reduceIte, f3]; omega
  · have hge : ¬ (t : Int) < 4 := by omega
    obtain rfl : t = 4 := by omega
    have c4 : ((4 : Nat) : Int) = 4 := rfl
    rw [c4] at f3
    obtain ⟨oa, hl17⟩ := oa (by decide)
    obtain ⟨p, cp, hf0, hcp⟩ := oa.open
    rw [hl17] at hf0 hcp
    rw [hf0] at oa sa
    obtain ⟨g1, hg1⟩ : ∃ g1 : Hp, g1 = g.push (.cells #[.int .i64 19] 3) := ⟨_, rfl⟩
    have b1 : Bel g.size g g1 := by rw [hg1]; exact Bel.push (Nat.le_refl _) _
    have s19 : IT g1 (.slice (some ⟨g.size, 0, none⟩) 1 1) [19] := by rw [hg1]; exact Ts.one (enc := fun x => [nv x]) 19 (fun _ => rfl) 1
    have e1 : g.push (.cells #[.int .i64 19] 3) = g1 := hg1.symm
    clear hg1
    simp (config := {maxSteps := 2000000, implicitDefEqProofs := false}) only [go_sem, ↓reduceIte, Nat.reduceEqDiff, Nat.reduceAdd, Nat.reduceMul, Nat.reduceLeDiff, Nat.reduceLT, Nat.reduceSub, IntWalk.iteOmega, IntWalk.toNatUp, reduceCtorEq, false_and, and_false, false_or, or_false, true_or, or_true, not_true_eq_false, not_false_eq_true, Bool.not_true, Bool.not_false, Bool.and_true, Bool.true_and, Bool.and_false, Bool.false_and, Bool.not_eq_true, beq_self_eq_true, Nat.add_zero, Int.reduceLE, Int.reduceLT, Int.reduceToNat, Int.reduceNeg, f3, hf0, e1]
    refine (curvePlus_ok T g1 _ _ a [19] (sa.bel b1) s19 wa (Eg.one (by decide))).use ?_
    rintro v1 g2 ⟨⟨u, cc, o1, w1, hl1', hvu⟩, b2⟩
    have hsz0 := hg.size
    have hsz1 := b1.size
    have b12 : Bel g.size g g2 := b1.trans (b2.mono hsz1)
    rw [List.take_of_length_le (by omega), List.take_of_length_le (by simp), show valE [19] = 19 from rfl] at hvu
    have hbd' : valE a < H255 := hbd
    have hc0 : cc = 0 := by
      rcases Nat.eq_zero_or_pos cc with e | e
      · exact e
      · have h1 : 1 * 65536 ^ 17 ≤ cc * 65536 ^ 17 := Nat.mul_le_mul_right _ e
        have h2 : H255 + 19 < 1 * 65536 ^ 17 := by decide
        omega
    rw [hc0, Nat.zero_mul, Nat.add_zero] at hvu
    have hv16 : valE u < 65536 ^ 16 := by
      have h2 : H255 + 19 < 65536 ^ 16 := by decide
      omega
    obtain ⟨d16, dtop⟩ := top_digit w1 hl1' hv16
    obtain ⟨q, cq, rfl, hcq⟩ := o1.open
    obtain ⟨bu, spare, hbu, rfl, hgu, hcl, hsp, _⟩ := o1.own.spare (by omega)
    rw [encs_one] at hgu
    have gx := cells_get hgu (i := 15) (by omega)
    unfold nv at gx
    have hx15 := w1.getD 15
    obtain ⟨x, hx⟩ : ∃ x, x = u.getD 15 0 := ⟨_, rfl⟩
    rw [← hx] at gx dtop hx15
    rw [hl1'] at o1
    have c17 : (16 : Int) ≤ 17 := by omega
    by_cases hbig : 32768 ≤ x
    · have hbig' : (32768 : Int) ≤ (x : Int) := by omega
      have ex : (x : Int) - 32768 = ((x - 32768 : Nat) : Int) := by omega
      have c1 : wr1 g2 ⟨bu, 15, none⟩ (.int .i64 (x - 32768 : Nat)) = _ := cells_set (f := nv) hgu (i := 15) (by omega) (x - 32768) rfl
      obtain ⟨g3, hg3⟩ : ∃ g3 : Hp, g3 = g2.setIfInBounds bu (.cells ((u.set 15 (x - 32768)).map nv ++ spare).toArray 3) := ⟨_, rfl⟩
      rw [← hg3] at c1
      have b3 : Bel h.size h g3 := by rw [hg3]; exact (hg.trans (b12.mono hsz0)).addSet (by omega) _
      have xg3 : g3[bu]? = some (.cells ((u.set 15 (x - 32768)).map nv ++ spare).toArray 3) := by rw [hg3]; exact get_set hgu
      have o3 : IO h.size g3 (.slice (some ⟨bu, 0, none⟩) 17 cq) (u.set 15 (x - 32768)) := by
        have := nv_back (B := h.size) (b := bu) (c := cq) (by omega) xg3 (by rw [hsp, List.length_set]; omega) (by rw [List.length_set]; omega)
        rw [List.length_set, hl1'] at this
        exact this
      have o4 := IO.fore (by rw [List.length_set]; omega) o3 (m := 16) (by rw [List.length_set]; omega)
      clear hg3
      simp (config := {maxSteps := 2000000, implicitDefEqProofs := false}) only [go_sem, ↓reduceIte, Nat.reduceEqDiff, Nat.reduceAdd, Nat.reduceMul, Nat.reduceLeDiff, Nat.reduceLT, Nat.reduceSub, IntWalk.iteOmega, IntWalk.toNatUp, reduceCtorEq, false_and, and_false, false_or, or_false, true_or, or_true, not_true_eq_false, not_false_eq_true, Bool.not_true, Bool.not_false, Bool.and_true, Bool.true_and, Bool.and_false, Bool.false_and, Bool.not_eq_true, beq_self_eq_true, Nat.add_zero, Int.reduceLE, Int.reduceLT, Int.reduceToNat, Int.reduceNeg, hl1', gx, hbig', ex, c1]
      have hv4 : valE ((u.set 15 (x - 32768)).take 16) = valE a % PN := by
        have h1 := set_drop hl1' d16 (by rw [← hx]; exact hbig)
        rw [← hx] at h1
        rw [h1]; exact cut_drop hbd' hvu (dtop.1 hbig)
      exact ⟨⟨_, o4, ⟨by rw [List.length_take, List.length_set]; omega, (w1.set _ (by omega)).take _, by rw [hv4]; exact Nat.mod_lt _ (by decide)⟩, hv4.trans hmod⟩, b3⟩
    · have hbig' : ¬ (32768 : Int) ≤ (x : Int) := by omega
      have o4 := IO.fore hl17 (oa.bel b12 (Nat.le_refl _)) (m := 16) (by omega)
      simp (config := {maxSteps := 2000000, implicitDefEqProofs := false}) only [go_sem, ↓reduceIte, Nat.reduceEqDiff, Nat.reduceAdd, Nat.reduceMul, Nat.reduceLeDiff, Nat.reduceLT, Nat.reduceSub, IntWalk.iteOmega, IntWalk.toNatUp, reduceCtorEq, false_and, and_false, false_or, or_false, true_or, or_true, not_true_eq_false, not_false_eq_true, Bool.not_true, Bool.not_false, Bool.and_true, Bool.true_and, Bool.and_false, Bool.false_and, Bool.not_eq_true, beq_self_eq_true, Nat.add_zero, Int.reduceLE, Int.reduceLT, Int.reduceToNat, Int.reduceNeg, hl1', gx, hbig', hf0]
      have hH : ¬ H255 ≤ valE u := fun e => hbig (dtop.2 e)
      have ha16 : valE a < 65536 ^ 16 := by omega
      obtain ⟨da16, _⟩ := top_digit wa hl17 ha16
      have hv4 : valE (a.take 16) = valE a % PN := by
        rw [take_val da16 hl17]; exact cut_keep hbd' hvu (by omega)
      exact ⟨⟨_, o4, ⟨by rw [List.length_take]; omega, wa.take _, by rw [hv4]; exact Nat.mod_lt _ (by decide)⟩, hv4.trans hmod⟩, hg.trans (b12.mono hsz0)⟩
end Go.Proofs.Ytiakfdpmapmifaa
