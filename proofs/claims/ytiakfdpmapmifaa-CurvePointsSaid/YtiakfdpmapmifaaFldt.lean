/- Numbers modulo 2^255 - 19 in sixteen limbs that may be below nought: the carry; no condition but those in the statements. -/
import Derived.Test.YtiakfdpmapmifaaWords
import Derived.Test.YtiakfdpmapmifaaW15
namespace Go.Proofs.Ytiakfdpmapmifaa
open Go Go.V
set_option linter.unusedSimpArgs false
set_option linter.unusedVariables false
set_option maxRecDepth 100000
def sv (x : Int) : Value := .int .i64 x
theorem shr16 (x : Int) : shrOp .i64 x 16 = x / 65536 := by
  have e : (16 : Int).toNat = 16 := rfl
  simp only [shrOp, e]
  rw [show min 16 IntKind.i64.bits = 16 from rfl, Int.fdiv_eq_ediv_of_nonneg _ (by decide)]
  rfl
theorem shl16 (x : Int) (h1 : -140737488355328 ≤ x) (h2 : x < 140737488355328) : shlOp .i64 x 16 = x * 65536 := by
  have e : (16 : Int).toNat = 16 := rfl
  simp only [shlOp, e]
  rw [show min 16 IntKind.i64.bits = 16 from rfl, show ((2 : Int) ^ 16) = 65536 from rfl]
  rw [wrap64_ite, if_pos (by omega)]
theorem icells_get {g : Hp} {b : Nat} {E : TypeId} {s : List Int} (hx : g[b]? = some (.cells (s.map sv).toArray E)) {i : Nat} (hi : i < s.length) : hc g ⟨b, i, none⟩ = some (.int .i64 (s.getD i 0)) := by
  rw [hc_last hx, nth_eq, List.getElem?_map, List.getElem?_eq_getElem hi, List.getD_eq_getElem?_getD, List.getElem?_eq_getElem hi]; rfl
theorem icells_set {g : Hp} {b : Nat} {E : TypeId} {s : List Int} (hx : g[b]? = some (.cells (s.map sv).toArray E)) {i : Nat} (hi : i < s.length) (y : Int) :
    wr1 g ⟨b, i, none⟩ (.int .i64 y) = some (g.setIfInBounds b (.cells ((s.set i y).map sv).toArray E)) := by
  rw [wr1_get hx, if_pos ⟨by simpa using hi, rfl⟩, List.map_set]; rfl
def fldC (l : List Int) : Obj := .cells (l.map sv).toArray 65
def fc1 (l : List Int) (i : Nat) : List Int :=
  if i < 15 then (l.set i (l.getD i 0 % 65536)).set (i + 1) ((l.set i (l.getD i 0 % 65536)).getD (i + 1) 0 + l.getD i 0 / 65536)
  else (l.set i (l.getD i 0 % 65536)).set 0 ((l.set i (l.getD i 0 % 65536)).getD 0 0 + 38 * (l.getD i 0 / 65536))
def fcN (l : List Int) : Nat → List Int
  | 0 => l
  | i + 1 => fc1 (fcN l i) i
/-- Each limb from -K to K. -/
def InK (K : Int) (l : List Int) : Prop := ∀ x ∈ l, -K ≤ x ∧ x ≤ K
theorem InK.getD {K : Int} {l : List Int} (w : InK K l) (hK : 0 ≤ K) (i : Nat) : -K ≤ l.getD i 0 ∧ l.getD i 0 ≤ K := by
  by_cases hi : i < l.length
  · have e : l.getD i 0 = l[i] := by rw [List.getD_eq_getElem?_getD, List.getElem?_eq_getElem hi]; rfl
    rw [e]; exact w _ (List.getElem_mem hi)
  · have e : l.getD i 0 = 0 := by rw [List.getD_eq_getElem?_getD, List.getElem?_eq_none (by omega)]; rfl
    rw [e]; omega
theorem InK.set {K : Int} {l : List Int} (w : InK K l) (i : Nat) (x : Int) (h1 : -K ≤ x) (h2 : x ≤ K) : InK K (l.set i x) := by
  intro y hy
  rcases List.mem_or_eq_of_mem_set hy with h | h
  · exact w y h
  · rw [h]; exact ⟨h1, h2⟩
theorem InK.mono {K K' : Int} {l : List Int} (w : InK K l) (h : K ≤ K') : InK K' l := fun x hx => by have := w x hx; omega
theorem fc1_length (l : List Int) (i : Nat) : (fc1 l i).length = l.length := by unfold fc1; split <;> simp
theorem fcN_length (l : List Int) : ∀ i, (fcN l i).length = l.length
  | 0 => rfl
  | i + 1 => by rw [fcN, fc1_length, fcN_length l i]
theorem fc1_in {K : Int} {l : List Int} {i : Nat} (w : InK K l) (h0 : 65536 ≤ K) (hK : K ≤ 2 ^ 56) : InK (K + 2 ^ 46) (fc1 l i) := by
  have hx := w.getD (by omega) i
  have w1 : InK K (l.set i (l.getD i 0 % 65536)) := w.set i _ (by omega) (by omega)
  have hy := w1.getD (by omega) (i + 1)
  have hz := w1.getD (by omega) 0
  unfold fc1
  split
  · exact (w1.mono (by omega)).set _ _ (by omega) (by omega)
  · exact (w1.mono (by omega)).set _ _ (by omega) (by omega)
theorem fcN_in {K : Int} {l : List Int} (w : InK K l) (h0 : 65536 ≤ K) (hK : K ≤ 2 ^ 55) : ∀ i : Nat, i ≤ 16 → InK (K + i * 2 ^ 46) (fcN l i)
  | 0, _ => by rw [show (K + ((0 : Nat) : Int) * 2 ^ 46) = K by omega]; exact w
  | i + 1, hi => by
    have := fc1_in (i := i) (fcN_in w h0 hK i (by omega)) (by omega) (by omega)
    rw [fcN]
    exact this.mono (by omega)
theorem igetD_set_ne {l : List Int} {i j : Nat} {x : Int} (h : i ≠ j) : (l.set i x).getD j 0 = l.getD j 0 := by
  rw [List.getD_eq_getElem?_getD, List.getD_eq_getElem?_getD, List.getElem?_set_ne h]
/-! ### the number -/
def vF : List Int → Int
  | [] => 0
  | x :: l => x + 65536 * vF l
def Q256 : Int := 2 ^ 256 - 38
theorem vF_set : ∀ {l : List Int} {i : Nat} {x : Int}, i < l.length → vF (l.set i x) = vF l + (x - l.getD i 0) * 65536 ^ i
  | y :: l, 0, x, _ => by simp only [List.set_cons_zero, List.getD_cons_zero, vF, Int.pow_zero, Int.mul_one]; omega
  | y :: l, i + 1, x, h => by
    simp only [List.set_cons_succ, List.getD_cons_succ, vF]
    rw [vF_set (l := l) (i := i) (x := x) (by simpa using h), Int.pow_succ, Int.mul_add, Int.mul_comm (65536 ^ i) 65536, ← Int.mul_assoc, ← Int.mul_assoc, Int.mul_comm 65536 (x - l.getD i 0)]
    omega
theorem fc1_val {l : List Int} {i : Nat} (hl : l.length = 16) (hi : i < 16) : ∃ c : Int, vF (fc1 l i) = vF l - c * Q256 := by
  have hd := Int.emod_add_mul_ediv (l.getD i 0) 65536
  unfold fc1
  split
  · rename_i h
    refine ⟨0, ?_⟩
    rw [vF_set (by rw [List.length_set]; omega), vF_set (by omega), Int.pow_succ]
    generalize (l.set i (l.getD i 0 % 65536)).getD (i + 1) 0 = y
    generalize l.getD i 0 / 65536 = c at *
    generalize l.getD i 0 % 65536 = r at *
    rw [← hd]
    have e1 : r - (r + 65536 * c) = -(65536 * c) := by omega
    have e2 : y + c - y = c := by omega
    rw [e1, e2, Int.zero_mul, Int.neg_mul, Int.mul_comm (65536 ^ i) 65536, ← Int.mul_assoc c, Int.mul_comm c 65536]
    omega
  · rename_i h
    obtain rfl : i = 15 := by omega
    refine ⟨l.getD 15 0 / 65536, ?_⟩
    rw [vF_set (by rw [List.length_set]; omega), vF_set (by omega), Int.pow_zero, Int.mul_one]
    generalize (l.set 15 (l.getD 15 0 % 65536)).getD 0 0 = y
    generalize l.getD 15 0 / 65536 = c at *
    generalize l.getD 15 0 % 65536 = r at *
    rw [← hd]
    have e1 : r - (r + 65536 * c) = -(65536 * c) := by omega
    have e2 : (65536 : Int) ^ 15 * 65536 = Q256 + 38 := rfl
    rw [e1, Int.neg_mul, Int.mul_assoc, Int.mul_comm c, ← Int.mul_assoc, Int.mul_comm 65536, e2, Int.add_mul, Int.mul_comm Q256]
    omega
theorem fcN_val {l : List Int} (hl : l.length = 16) : ∀ i, i ≤ 16 → ∃ c : Int, vF (fcN l i) = vF l - c * Q256
  | 0, _ => ⟨0, by rw [fcN, Int.zero_mul]; omega⟩
  | i + 1, hi => by
    obtain ⟨c, hc⟩ := fcN_val hl i (by omega)
    obtain ⟨d, hd⟩ := fc1_val (l := fcN l i) (i := i) (by rw [fcN_length, hl]) (by omega)
    refine ⟨c + d, ?_⟩
    rw [fcN, hd, hc, Int.add_mul]; omega
end Go.Proofs.Ytiakfdpmapmifaa
namespace Go.Proofs.Ytiakfdpmapmifaa
open Go Go.V
set_option linter.unusedSimpArgs false
set_option linter.unusedVariables false
set_option maxRecDepth 100000
set_option maxHeartbeats 1000000 in
theorem fldCarry_ok (T : World) (h : Hp) (bk : Nat) (l : List Int) (hl : l.length = 16) (w : InK (2 ^ 55) l) (hb : h[bk]? = some (fldC l)) :
    CallsH Try.prog T 58 #[.pointer (some ⟨bk, 0, none⟩)] h fun v' h' => h' = h.setIfInBounds bk (fldC (fcN l 16)) := by
  refine CallsH.of_code' (args := [_]) Try.func58 rfl rfl rfl rfl ?_
  simp (config := {maxSteps := 2000000, implicitDefEqProofs := false}) only [go_sem, ↓reduceIte, Nat.reduceEqDiff, Nat.reduceAdd, Nat.reduceMul, Nat.reduceLeDiff, Nat.reduceLT, Nat.reduceSub, IntWalk.iteOmega, IntWalk.toNatUp, reduceCtorEq, false_and, and_false, false_or, or_false, true_or, or_true, not_true_eq_false, not_false_eq_true, Bool.not_true, Bool.not_false, Bool.and_true, Bool.true_and, Bool.and_false, Bool.false_and, Bool.not_eq_true, beq_self_eq_true, Nat.add_zero, Int.reduceLE, Int.reduceLT, Int.reduceToNat, Int.reduceNeg]
  refine VS.loop' (fun F g => F 0 = .pointer (some ⟨bk, 0, none⟩) ∧ ∃ i : Nat, i ≤ 16 ∧ F 4 = .int .i64 i ∧ g = h.setIfInBounds bk (fldC (fcN l i)))
    (fun F _ => 16 - (vi (F 4)).toNat) rfl ⟨rfl, 0, by omega, rfl, (set_same hb).symm⟩ ?_
  rintro F g ⟨f0, i, hi, f4, rfl⟩
  have hx := cells_new (o := fldC (fcN l i)) hb
  have hw := fcN_in w (by decide) (by decide) i hi
  have hln : (fcN l i).length = 16 := by rw [fcN_length, hl]
  by_cases hlt : i < 16
  · have hlt' : (i : Int) < 16 := by omega
    have hnext : fcN l (i + 1) = fc1 (fcN l i) i := rfl
    have hwi := hw.getD (by omega) i
    obtain ⟨a, ha⟩ : ∃ a, a = fcN l i := ⟨_, rfl⟩
    rw [← ha] at hx hw hwi hln hnext ⊢
    obtain ⟨G, hG⟩ : ∃ G, G = h.setIfInBounds bk (fldC a) := ⟨_, rfl⟩
    rw [← hG] at hx ⊢
    have g1 := icells_get hx (i := i) (by omega)
    obtain ⟨x, hxx⟩ : ∃ x, x = a.getD i 0 := ⟨_, rfl⟩
    rw [← hxx] at g1 hwi
    have e1 := shr16 x
    have e2 := shl16 (x / 65536) (by omega) (by omega)
    have e3 : x - x / 65536 * 65536 = x % 65536 := by omega
    have hr0 : 0 ≤ x % 65536 := by omega
    have hr1 : x % 65536 < 65536 := by omega
    obtain ⟨c, hc⟩ : ∃ c, c = x / 65536 := ⟨_, rfl⟩
    have hcb1 : -1099511627776 ≤ c := by omega
    have hcb2 : c ≤ 1099511627776 := by omega
    obtain ⟨r, hr⟩ : ∃ r, r = x % 65536 := ⟨_, rfl⟩
    have hc1 : fc1 a i = if i < 15 then (a.set i r).set (i + 1) ((a.set i r).getD (i + 1) 0 + c) else (a.set i r).set 0 ((a.set i r).getD 0 0 + 38 * c) := by rw [hc, hr, hxx]; rfl
    rw [← hc] at e1 e2 e3
    rw [← hr] at e3 hr0 hr1
    clear hc hr hxx
    simp (config := {maxSteps := 2000000, implicitDefEqProofs := false}) only [go_sem, ↓reduceIte, Nat.reduceEqDiff, Nat.reduceAdd, Nat.reduceMul, Nat.reduceLeDiff, Nat.reduceLT, Nat.reduceSub, IntWalk.iteOmega, IntWalk.toNatUp, reduceCtorEq, false_and, and_false, false_or, or_false, true_or, or_true, not_true_eq_false, not_false_eq_true, Bool.not_true, Bool.not_false, Bool.and_true, Bool.true_and, Bool.and_false, Bool.false_and, Bool.not_eq_true, beq_self_eq_true, Nat.add_zero, Int.reduceLE, Int.reduceLT, Int.reduceToNat, Int.reduceNeg, f0, f4, hlt', Int.toNat_natCast, Nat.zero_add, g1, e1]
    refine VS.w (bk + 1) [10] (.q 0 (.q 1 (.q 2 (.q 3 (.q 4 (.q 5 (.q 6 (.q 7 (.q 8 (.q 9 (.w 10 .nil))))))))))) mixed (by kernel_rfl) ?_
    have c1 : wr1 _ ⟨bk, i, none⟩ (.int .i64 r) = _ := icells_set hx (i := i) (by omega) r
    have hx1 := cells_new (o := .cells ((a.set i r).map sv).toArray 65) hx
    have hw1 := hw.set i r (by omega) (by omega)
    have hl1 : (a.set i r).length = 16 := by rw [List.length_set, hln]
    obtain ⟨a1, ha1⟩ : ∃ a1, a1 = a.set i r := ⟨_, rfl⟩
    rw [← ha1] at hx1 hw1 hc1 hl1 c1
    obtain ⟨G1, hG1⟩ : ∃ G1, G1 = G.setIfInBounds bk (.cells (a1.map sv).toArray 65) := ⟨_, rfl⟩
    rw [← hG1] at hx1 c1
    by_cases h15 : i < 15
    · have h15' : (i : Int) < 15 := by omega
      rw [if_pos h15] at hc1
      simp (config := {maxSteps := 2000000, implicitDefEqProofs := false}) only [go_sem, ↓reduceIte, Nat.reduceEqDiff, Nat.reduceAdd, Nat.reduceMul, Nat.reduceLeDiff, Nat.reduceLT, Nat.reduceSub, IntWalk.iteOmega, IntWalk.toNatUp, reduceCtorEq, false_and, and_false, false_or, or_false, true_or, or_true, not_true_eq_false, not_false_eq_true, Bool.not_true, Bool.not_false, Bool.and_true, Bool.true_and, Bool.and_false, Bool.false_and, Bool.not_eq_true, beq_self_eq_true, Nat.add_zero, Int.reduceLE, Int.reduceLT, Int.reduceToNat, Int.reduceNeg, f0, f4, hlt', Int.toNat_natCast, Nat.zero_add, g1, e1, e2, e3, c1, h15']
      refine VS.w (bk + 1) [10] (.q 0 (.q 1 (.q 2 (.q 3 (.q 4 (.q 5 (.q 6 (.q 7 (.q 8 (.q 9 (.w 10 .nil))))))))))) mixed (by kernel_rfl) ?_
      have g2 := icells_get hx1 (i := i + 1) (by omega)
      have hy := hw1.getD (by omega) (i + 1)
      obtain ⟨y, hyy⟩ : ∃ y, y = a1.getD (i + 1) 0 := ⟨_, rfl⟩
      rw [← hyy] at g2 hy hc1
      have ei : (i : Int) + 1 = ((i + 1 : Nat) : Int) := rfl
      have hi1 : ((i + 1 : Nat) : Int) < 16 := by omega
      have c2 : wr1 G1 ⟨bk, i + 1, none⟩ (.int .i64 (y + c)) = _ := icells_set hx1 (i := i + 1) (by omega) (y + c)
      simp (config := {maxSteps := 2000000, implicitDefEqProofs := false}) only [go_sem, ↓reduceIte, Nat.reduceEqDiff, Nat.reduceAdd, Nat.reduceMul, Nat.reduceLeDiff, Nat.reduceLT, Nat.reduceSub, IntWalk.iteOmega, IntWalk.toNatUp, reduceCtorEq, false_and, and_false, false_or, or_false, true_or, or_true, not_true_eq_false, not_false_eq_true, Bool.not_true, Bool.not_false, Bool.and_true, Bool.true_and, Bool.and_false, Bool.false_and, Bool.not_eq_true, beq_self_eq_true, Nat.add_zero, Int.reduceLE, Int.reduceLT, Int.reduceToNat, Int.reduceNeg, f0, f4, hlt', ei, hi1, Int.toNat_natCast, Nat.zero_add, g2, c2]
      refine ⟨⟨f0, i + 1, hlt, rfl, ?_⟩, ?_⟩
      · rw [hG1, set_set, hG, set_set, hnext, hc1]; rfl
      · simp only [vi, updo_some, ↓reduceIte, f4]; omega
    · have h15' : ¬ (i : Int) < 15 := by omega
      rw [if_neg h15] at hc1
      simp (config := {maxSteps := 2000000, implicitDefEqProofs := false}) only [go_sem, ↓reduceIte, Nat.reduceEqDiff, Nat.reduceAdd, Nat.reduceMul, Nat.reduceLeDiff, Nat.reduceLT, Nat.reduceSub, IntWalk.iteOmega, IntWalk.toNatUp, reduceCtorEq, false_and, and_false, false_or, or_false, true_or, or_true, not_true_eq_false, not_false_eq_true, Bool.not_true, Bool.not_false, Bool.and_true, Bool.true_and, Bool.and_false, Bool.false_and, Bool.not_eq_true, beq_self_eq_true, Nat.add_zero, Int.reduceLE, Int.reduceLT, Int.reduceToNat, Int.reduceNeg, f0, f4, hlt', Int.toNat_natCast, Nat.zero_add, g1, e1, e2, e3, c1, h15']
      refine VS.w (bk + 1) [9] (.q 0 (.q 1 (.q 2 (.q 3 (.q 4 (.q 5 (.q 6 (.q 7 (.q 8 (.w 9 .nil)))))))))) mixed (by kernel_rfl) ?_
      have g2 := icells_get hx1 (i := 0) (by omega)
      have hy := hw1.getD (by omega) 0
      obtain ⟨y, hyy⟩ : ∃ y, y = a1.getD 0 0 := ⟨_, rfl⟩
      rw [← hyy] at g2 hy hc1
      have c2 : wr1 G1 ⟨bk, 0, none⟩ (.int .i64 (y + 38 * c)) = _ := icells_set hx1 (i := 0) (by omega) (y + 38 * c)
      simp (config := {maxSteps := 2000000, implicitDefEqProofs := false}) only [go_sem, ↓reduceIte, Nat.reduceEqDiff, Nat.reduceAdd, Nat.reduceMul, Nat.reduceLeDiff, Nat.reduceLT, Nat.reduceSub, IntWalk.iteOmega, IntWalk.toNatUp, reduceCtorEq, false_and, and_false, false_or, or_false, true_or, or_true, not_true_eq_false, not_false_eq_true, Bool.not_true, Bool.not_false, Bool.and_true, Bool.true_and, Bool.and_false, Bool.false_and, Bool.not_eq_true, beq_self_eq_true, Nat.add_zero, Int.reduceLE, Int.reduceLT, Int.reduceToNat, Int.reduceNeg, f0, f4, hlt', Int.toNat_natCast, Nat.zero_add, g2, c2]
      refine ⟨⟨f0, i + 1, hlt, rfl, ?_⟩, ?_⟩
      · rw [hG1, set_set, hG, set_set, hnext, hc1]; rfl
      · simp only [vi, updo_some, ↓reduceIte, f4]; omega
  · have hge : ¬ (i : Int) < 16 := by omega
    obtain rfl : i = 16 := by omega
    have c16 : ((16 : Nat) : Int) = 16 := rfl
    rw [c16] at f4 hge
    simp (config := {maxSteps := 2000000, implicitDefEqProofs := false}) only [go_sem, ↓reduceIte, Nat.reduceEqDiff, Nat.reduceAdd, Nat.reduceMul, Nat.reduceLeDiff, Nat.reduceLT, Nat.reduceSub, IntWalk.iteOmega, IntWalk.toNatUp, reduceCtorEq, false_and, and_false, false_or, or_false, true_or, or_true, not_true_eq_false, not_false_eq_true, Bool.not_true, Bool.not_false, Bool.and_true, Bool.true_and, Bool.and_false, Bool.false_and, Bool.not_eq_true, beq_self_eq_true, Nat.add_zero, Int.reduceLE, Int.reduceLT, Int.reduceToNat, Int.reduceNeg, f0, f4, hge]
end Go.Proofs.Ytiakfdpmapmifaa
namespace Go.Proofs.Ytiakfdpmapmifaa
open Go Go.V
set_option linter.unusedSimpArgs false
set_option linter.unusedVariables false
set_option maxRecDepth 100000
def vS (f : Nat → Int) : Nat → Int
  | 0 => 0
  | n + 1 => vS f n + f n * 65536 ^ n
theorem vS_succ (f : Nat → Int) : ∀ n, vS f (n + 1) = f 0 + 65536 * vS (fun i => f (i + 1)) n
  | 0 => by simp [vS]
  | n + 1 => by
    rw [vS, vS_succ f n, vS, Int.mul_add, Int.pow_succ, Int.add_assoc]
    congr 2
    rw [Int.mul_comm (65536 ^ n) 65536, Int.mul_left_comm]
theorem vF_vS : ∀ l : List Int, vF l = vS (fun i => l.getD i 0) l.length
  | [] => rfl
  | x :: l => by
    rw [List.length_cons, vS_succ, vF, vF_vS l]
    simp only [List.getD_cons_zero, List.getD_cons_succ]
theorem vS_congr {f g : Nat → Int} : ∀ n, (∀ i, i < n → f i = g i) → vS f n = vS g n
  | 0, _ => rfl
  | n + 1, h => by rw [vS, vS, vS_congr n (fun i hi => h i (by omega)), h n (by omega)]
theorem vS_lin (f g : Nat → Int) (c : Int) : ∀ n, vS (fun i => f i + c * g i) n = vS f n + c * vS g n
  | 0 => by simp [vS]
  | n + 1 => by
    simp only [vS]
    rw [vS_lin f g c n, Int.add_mul, Int.mul_add, Int.mul_assoc]
    omega
theorem vS_split (f : Nat → Int) (m : Nat) : ∀ n, vS f (m + n) = vS f m + 65536 ^ m * vS (fun i => f (m + i)) n
  | 0 => by simp [vS]
  | n + 1 => by
    rw [← Nat.add_assoc, vS, vS_split f m n, vS, Int.mul_add, Int.pow_add, Int.add_assoc]
    congr 2
    rw [Int.mul_left_comm]
def ftrow (a : Int) (bs out : List Int) (i : Nat) : Nat → List Int
  | 0 => out
  | k + 1 => (ftrow a bs out i k).set (i + k) ((ftrow a bs out i k).getD (i + k) 0 + a * bs.getD k 0)
def ftmat (xs bs : List Int) : Nat → List Int
  | 0 => List.replicate 31 0
  | i + 1 => ftrow (xs.getD i 0) bs (ftmat xs bs i) i 16
theorem ftrow_length (a : Int) (bs out : List Int) (i : Nat) : ∀ k, (ftrow a bs out i k).length = out.length
  | 0 => rfl
  | k + 1 => by rw [ftrow, List.length_set, ftrow_length a bs out i k]
theorem ftmat_length (xs bs : List Int) : ∀ i, (ftmat xs bs i).length = 31
  | 0 => by simp [ftmat]
  | i + 1 => by rw [ftmat, ftrow_length, ftmat_length xs bs i]
theorem fmul_bound {a b : Int} (ha : -524288 ≤ a ∧ a ≤ 524288) (hb : -524288 ≤ b ∧ b ≤ 524288) : -274877906944 ≤ a * b ∧ a * b ≤ 274877906944 := by
  have h1 : a.natAbs ≤ 524288 := by omega
  have h2 : b.natAbs ≤ 524288 := by omega
  have h3 : (a * b).natAbs ≤ 524288 * 524288 := by rw [Int.natAbs_mul]; exact Nat.mul_le_mul h1 h2
  omega
theorem ftrow_in {K a : Int} {bs out : List Int} {i : Nat} (w : InK K out) (hK : 0 ≤ K) (ha : -524288 ≤ a ∧ a ≤ 524288) (hb : InK 524288 bs) : ∀ k : Nat, InK (K + k * 274877906944) (ftrow a bs out i k)
  | 0 => by rw [show (K + ((0 : Nat) : Int) * 274877906944) = K by omega]; exact w
  | k + 1 => by
    have h := ftrow_in w hK ha hb k (i := i)
    have h1 := fmul_bound ha (hb.getD (by omega) k)
    have h2 := h.getD (by omega) (i + k)
    rw [ftrow]
    exact (h.mono (by omega)).set _ _ (by omega) (by omega)
theorem ftmat_in {xs bs : List Int} (ha : InK 524288 xs) (hb : InK 524288 bs) : ∀ i : Nat, InK (i * 4398046511104) (ftmat xs bs i)
  | 0 => fun x hx => by rw [List.eq_of_mem_replicate (show x ∈ List.replicate 31 0 from hx)]; omega
  | i + 1 => by
    rw [ftmat]
    exact (ftrow_in (ftmat_in ha hb i) (by omega) (ha.getD (by omega) i) hb 16).mono (by omega)
theorem ftrow_val {a : Int} {bs out : List Int} {i : Nat} (hl : out.length = 31) (hi : i < 16) : ∀ k, k ≤ 16 → vF (ftrow a bs out i k) = vF out + a * 65536 ^ i * vS (fun j => bs.getD j 0) k
  | 0, _ => by rw [ftrow, vS, Int.mul_zero]; omega
  | k + 1, hk => by
    rw [ftrow, vF_set (by rw [ftrow_length, hl]; omega), ftrow_val hl hi k (by omega), vS, Int.mul_add, Int.pow_add]
    have e : ∀ x y : Int, x + y - x = y := fun x y => by omega
    rw [e, Int.add_assoc]
    congr 2
    rw [Int.mul_assoc, Int.mul_assoc a]
    congr 1
    rw [Int.mul_left_comm]
theorem ftmat_val {xs bs : List Int} (hb : bs.length = 16) : ∀ i, i ≤ 16 → vF (ftmat xs bs i) = vS (fun j => xs.getD j 0) i * vF bs
  | 0, _ => by rw [vS, Int.zero_mul]; rfl
  | i + 1, hi => by
    have e := vF_vS bs
    rw [hb] at e
    rw [ftmat, ftrow_val (ftmat_length xs bs i) (by omega) 16 (by omega), ftmat_val hb i (by omega), ← e, vS, Int.add_mul]
/-- The upper limbs are put below. -/
def ffold (t : List Int) : Nat → List Int
  | 0 => List.replicate 16 0
  | i + 1 => (ffold t i).set i (t.getD i 0 + 38 * t.getD (i + 16) 0)
theorem ffold_length (t : List Int) : ∀ i, (ffold t i).length = 16
  | 0 => by simp [ffold]
  | i + 1 => by rw [ffold, List.length_set, ffold_length t i]
theorem ffold_in {K : Int} {t : List Int} (w : InK K t) (hK : 0 ≤ K) : ∀ i, InK (39 * K) (ffold t i)
  | 0 => fun x hx => by rw [List.eq_of_mem_replicate (show x ∈ List.replicate 16 0 from hx)]; omega
  | i + 1 => by
    have h1 := w.getD hK i
    have h2 := w.getD hK (i + 16)
    rw [ffold]
    exact (ffold_in w hK i).set _ _ (by omega) (by omega)
theorem ffold_getD (t : List Int) : ∀ (n i : Nat), i < n → n ≤ 16 → (ffold t n).getD i 0 = t.getD i 0 + 38 * t.getD (i + 16) 0
  | n + 1, i, hi, hn => by
    rw [ffold]
    by_cases e : i = n
    · subst e
      rw [List.getD_eq_getElem?_getD, List.getElem?_set_self (by rw [ffold_length]; omega)]; rfl
    · rw [igetD_set_ne (by omega), ffold_getD t n i (by omega) (by omega)]
theorem ffold_val {t : List Int} (hl : t.length = 31) : ∃ c : Int, vF (ffold t 16) = vF t - c * Q256 := by
  refine ⟨vS (fun i => t.getD (16 + i) 0) 15, ?_⟩
  have h1 : vF (ffold t 16) = vS (fun i => t.getD i 0) 16 + 38 * vS (fun i => t.getD (i + 16) 0) 16 := by
    rw [vF_vS, ffold_length, ← vS_lin]
    exact vS_congr 16 (fun i hi => ffold_getD t 16 i hi (by omega))
  have h2 : vS (fun i => t.getD (i + 16) 0) 16 = vS (fun i => t.getD (16 + i) 0) 15 := by
    rw [vS]
    have e : t.getD (15 + 16) 0 = 0 := by rw [List.getD_eq_getElem?_getD, List.getElem?_eq_none (by omega)]; rfl
    rw [e, Int.zero_mul, Int.add_zero]
    exact vS_congr 15 (fun i _ => by rw [Nat.add_comm])
  have h3 : vF t = vS (fun i => t.getD i 0) 16 + 65536 ^ 16 * vS (fun i => t.getD (16 + i) 0) 15 := by
    rw [vF_vS, hl]; exact vS_split _ 16 15
  rw [h1, h2, h3]
  have hq : (65536 : Int) ^ 16 = Q256 + 38 := rfl
  rw [hq, Int.add_mul, Int.mul_comm Q256]
  omega
end Go.Proofs.Ytiakfdpmapmifaa
