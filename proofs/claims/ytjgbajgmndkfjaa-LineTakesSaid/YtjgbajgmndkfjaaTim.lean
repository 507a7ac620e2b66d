/- The reference's product of numbers as digits; no condition but those in the statements. -/
import Derived.Test.YtjgbajgmndkfjaaDig
namespace Go.Proofs.Ytjgbajgmndkfjaa
open Go Go.V
set_option linter.unusedSimpArgs false
set_option linter.unusedVariables false
set_option maxRecDepth 100000
theorem zrep_ints (n : Nat) : zrep n [Value.int .i64 0] = (List.replicate n 0).map nv := by
  induction n with
  | zero => rfl
  | succ n ih => rw [zrep, ih]; rfl
theorem Dg.zero (n : Nat) : Dg (List.replicate n 0) := by
  intro x hx; rw [List.eq_of_mem_replicate hx]; decide
theorem times_step {b o : List Nat} {i k c V A n : Nat} (hi : i + k < o.length) (hv : valD o + c * 256 ^ (i + k) = V + A * valD (b.take k) * 256 ^ i) (hn : n = o.getD (i + k) 0 + c + A * b.getD k 0) :
    valD (o.set (i + k) (n % 256)) + n / 256 * 256 ^ (i + (k + 1)) = V + A * valD (b.take (k + 1)) * 256 ^ i := by
  have h1 := valD_set o (i + k) (n % 256) hi
  rw [valD_take, Nat.mul_add, Nat.add_mul, ← Nat.add_assoc i k 1, Nat.pow_succ]
  have e1 : A * (b.getD k 0 * 256 ^ k) * 256 ^ i = A * b.getD k 0 * 256 ^ (i + k) := by
    rw [Nat.pow_add, ← Nat.mul_assoc, Nat.mul_assoc, Nat.mul_comm (256 ^ k)]
  have e2 : n % 256 * 256 ^ (i + k) + n / 256 * (256 ^ (i + k) * 256) = n * 256 ^ (i + k) := by
    rw [Nat.mul_comm (256 ^ (i + k)) 256, ← Nat.mul_assoc, ← Nat.add_mul]
    congr 1; omega
  have e3 : n * 256 ^ (i + k) = o.getD (i + k) 0 * 256 ^ (i + k) + c * 256 ^ (i + k) + A * b.getD k 0 * 256 ^ (i + k) := by rw [hn, Nat.add_mul, Nat.add_mul]
  rw [e1]
  omega
theorem getD_set_ne {l : List Nat} {i j x : Nat} (h : i ≠ j) : (l.set i x).getD j 0 = l.getD j 0 := by
  rw [List.getD_eq_getElem?_getD, List.getD_eq_getElem?_getD, List.getElem?_set_ne h]
set_option maxHeartbeats 1000000 in
theorem timesDigits_ok (T : World) (h : Hp) (va vb : Value) (a b : List Nat) (sa : IT h va a) (sb : IT h vb b) (wa : Dg a) (wb : Dg b) (hl : a.length + b.length ≤ 1000000) :
    CallsH Try.prog T 146 #[va, vb] h fun v' h' => (∃ o, IO h.size h' v' o ∧ Dg o ∧ valD o = valD a * valD b ∧ o.length = a.length + b.length + 1) ∧ Bel h.size h h' := by
  obtain ⟨p, cp, rfl, hca⟩ := nv_open sa
  obtain ⟨q, cq, rfl, hcb⟩ := nv_open sb
  refine CallsH.of_code' (args := [_, _]) Try.func146 rfl rfl rfl rfl ?_
  have l1 : (a.length : Int) + (b.length : Int) = ((a.length + b.length : Nat) : Int) := by omega
  have l2 : ((a.length + b.length : Nat) : Int) + 1 = ((a.length + b.length + 1 : Nat) : Int) := by omega
  obtain ⟨n, hn⟩ : ∃ n, n = a.length + b.length + 1 := ⟨_, rfl⟩
  rw [← hn] at l2
  have l3 : 8 * ((n : Nat) : Int) ≤ 281474976710656 := by omega
  simp (config := {maxSteps := 2000000, implicitDefEqProofs := false}) only [go_sem, ↓reduceIte, Nat.reduceEqDiff, Nat.reduceAdd, Nat.reduceMul, Nat.reduceLeDiff, Nat.reduceLT, Nat.reduceSub, IntWalk.iteOmega, IntWalk.toNatUp, reduceCtorEq, false_and, and_false, false_or, or_false, true_or, or_true, not_true_eq_false, not_false_eq_true, Bool.not_true, Bool.not_false, Bool.and_true, Bool.true_and, Bool.and_false, Bool.false_and, Bool.not_eq_true, beq_self_eq_true, Nat.add_zero, Int.reduceLE, Int.reduceLT, Int.reduceToNat, Int.reduceNeg, l1, l2, l3, zrep_ints, Int.toNat_natCast]
  refine VS.loop' (fun F g => Bel h.size h g ∧ F 0 = .slice p a.length cp ∧ F 1 = .slice q b.length cq ∧ F 5 = .slice (some ⟨h.size, 0, none⟩) n n ∧ ∃ (i : Nat) (o : List Nat), i ≤ a.length ∧ F 6 = .int .i64 i ∧ o.length = n ∧ Dg o ∧ g[h.size]? = some (.cells (o.map nv ++ []).toArray 3) ∧ valD o = valD (a.take i) * valD b ∧ ∀ j, i + b.length ≤ j → o.getD j 0 = 0)
    (fun F _ => a.length - (vi (F 6)).toNat) rfl ⟨(Bel.refl _ _).addP (Nat.le_refl _) _, rfl, rfl, rfl, 0, List.replicate n 0, by omega, rfl, by simp, Dg.zero n, by rw [List.append_nil]; exact get_push_last, by rw [valD_zero]; simp [valD], fun j _ => ?_⟩ ?_
  · rw [List.getD_eq_getElem?_getD, List.getElem?_replicate]; split <;> rfl
  rintro F g ⟨hg, f0, f1, f5, i, o0, hi, f6, hol0, wo0, hx0, hv0, hz⟩
  by_cases hlt : i < a.length
  · have hlt' : (i : Int) < a.length := by omega
    obtain ⟨ba, oa, rfl, hba, hca⟩ := hca (by intro e; subst e; simp at hlt)
    have hia := wa.getD i
    obtain ⟨A, hA⟩ : ∃ A, A = a.getD i 0 := ⟨_, rfl⟩
    simp (config := {maxSteps := 2000000, implicitDefEqProofs := false}) only [go_sem, ↓reduceIte, Nat.reduceEqDiff, Nat.reduceAdd, Nat.reduceMul, Nat.reduceLeDiff, Nat.reduceLT, Nat.reduceSub, IntWalk.iteOmega, IntWalk.toNatUp, reduceCtorEq, false_and, and_false, false_or, or_false, true_or, or_true, not_true_eq_false, not_false_eq_true, Bool.not_true, Bool.not_false, Bool.and_true, Bool.true_and, Bool.and_false, Bool.false_and, Bool.not_eq_true, beq_self_eq_true, Nat.add_zero, Int.reduceLE, Int.reduceLT, Int.reduceToNat, Int.reduceNeg, f0, f6, hlt']
    refine VS.loop' (fun F g => Bel h.size h g ∧ F 0 = .slice (some ⟨ba, oa, none⟩) a.length cp ∧ F 1 = .slice q b.length cq ∧ F 5 = .slice (some ⟨h.size, 0, none⟩) n n ∧ F 6 = .int .i64 i ∧ ∃ (k c : Nat) (o : List Nat), (k ≤ b.length ∨ k = b.length + 1 ∧ c = 0) ∧ c < 256 ∧ F 8 = .int .i64 k ∧ F 7 = .int .i64 c ∧ o.length = n ∧ Dg o ∧ g[h.size]? = some (.cells (o.map nv ++ []).toArray 3) ∧ valD o + c * 256 ^ (i + k) = valD o0 + A * valD (b.take k) * 256 ^ i ∧ ∀ j, i + k ≤ j → o.getD j 0 = o0.getD j 0)
      (fun F _ => b.length + 1 - (vi (F 8)).toNat) rfl ⟨hg, f0, f1, f5, f6, 0, 0, o0, by omega, by omega, rfl, rfl, hol0, wo0, hx0, by simp [valD], fun j _ => rfl⟩ ?_
    clear f0 f1 f5 f6 hg hx0
    rintro F g ⟨hg, f0, f1, f5, f6, k, c, o, hk, hc, f8, f7, hol, wo, hx, hv, hsame⟩
    by_cases hkl : k < b.length
    · have hkl' : (k : Int) < b.length := by omega
      obtain ⟨bb, ob, rfl, hbb, hcb⟩ := hcb (by intro e; subst e; simp at hkl)
      have ga : V.hc g ⟨ba, oa + i, none⟩ = some (.int .i64 (a.getD i 0 : Nat)) := by rw [hg.hc (by exact hba)]; exact hca i hlt
      have gb : V.hc g ⟨bb, ob + k, none⟩ = some (.int .i64 (b.getD k 0 : Nat)) := by rw [hg.hc (by exact hbb)]; exact hcb k hkl
      have go := cells_get hx (i := i + k) (by omega)
      unfold nv at go
      rw [← hA] at ga hia
      have hib := wb.getD k
      have hio := wo.getD (i + k)
      have hs := times_step (n := _) (by omega) hv rfl
      obtain ⟨B, hB⟩ : ∃ B, B = b.getD k 0 := ⟨_, rfl⟩
      obtain ⟨x, hxx⟩ : ∃ x, x = o.getD (i + k) 0 := ⟨_, rfl⟩
      rw [← hB] at gb hs hib
      rw [← hxx] at go hs hio
      have hAB : A * B ≤ 255 * 255 := Nat.mul_le_mul (by omega) (by omega)
      have e0 : (A : Int) * (B : Int) = ((A * B : Nat) : Int) := (Int.natCast_mul A B).symm
      obtain ⟨M, hM⟩ : ∃ M, M = A * B := ⟨_, rfl⟩
      rw [← hM] at e0 hs hAB
      have e1 : (x : Int) + (c : Int) = ((x + c : Nat) : Int) := by omega
      have e2 : ((x + c : Nat) : Int) + (M : Int) = ((x + c + M : Nat) : Int) := by omega
      have e3 : (i : Int) + (k : Int) = ((i + k : Nat) : Int) := by omega
      obtain ⟨t, ht⟩ : ∃ t, t = x + c + M := ⟨_, rfl⟩
      rw [← ht] at e2 hs
      have em : ((t : Nat) : Int).tmod 256 = ((t % 256 : Nat) : Int) := rfl
      have ed : ((t : Nat) : Int).tdiv 256 = ((t / 256 : Nat) : Int) := rfl
      have ht2 : t ≤ 65535 := by omega
      have hik : ((i + k : Nat) : Int) < (n : Int) := by omega
      simp (config := {maxSteps := 2000000, implicitDefEqProofs := false}) only [go_sem, ↓reduceIte, Nat.reduceEqDiff, Nat.reduceAdd, Nat.reduceMul, Nat.reduceLeDiff, Nat.reduceLT, Nat.reduceSub, IntWalk.iteOmega, IntWalk.toNatUp, reduceCtorEq, false_and, and_false, false_or, or_false, true_or, or_true, not_true_eq_false, not_false_eq_true, Bool.not_true, Bool.not_false, Bool.and_true, Bool.true_and, Bool.and_false, Bool.false_and, Bool.not_eq_true, beq_self_eq_true, Nat.add_zero, Int.reduceLE, Int.reduceLT, Int.reduceToNat, Int.reduceNeg, f0, f1, f5, f6, f7, f8, hkl', e3, hik, Int.toNat_natCast, Nat.zero_add, go, e1]
      refine VS.q mixed (by kernel_rfl) ?_
      have c1 : wr1 g ⟨h.size, i + k, none⟩ (.int .i64 (t % 256 : Nat)) = _ := cells_set (f := nv) hx (i := i + k) (by omega) (t % 256) rfl
      simp (config := {maxSteps := 2000000, implicitDefEqProofs := false}) only [go_sem, ↓reduceIte, Nat.reduceEqDiff, Nat.reduceAdd, Nat.reduceMul, Nat.reduceLeDiff, Nat.reduceLT, Nat.reduceSub, IntWalk.iteOmega, IntWalk.toNatUp, reduceCtorEq, false_and, and_false, false_or, or_false, true_or, or_true, not_true_eq_false, not_false_eq_true, Bool.not_true, Bool.not_false, Bool.and_true, Bool.true_and, Bool.and_false, Bool.false_and, Bool.not_eq_true, beq_self_eq_true, Nat.add_zero, Int.reduceLE, Int.reduceLT, Int.reduceToNat, Int.reduceNeg, f0, f1, f5, f6, f7, f8, hlt', hkl', e3, hik, ga, gb, e0, e2, em, ed, c1]
      refine ⟨⟨hg.addSet (Nat.le_refl _) _, f0, f1, f5, f6, k + 1, t / 256, o.set (i + k) (t % 256), by omega, by omega, rfl, rfl, by rw [List.length_set, hol], wo.set _ (by omega), cells_new hx, hs, fun j hj => ?_⟩, ?_⟩
      · rw [getD_set_ne (by omega)]; exact hsame j (by omega)
      · simp only [vi, updo_some, ↓reduceIte, f8]; omega
    · have hkl' : ¬ (k : Int) < b.length := by omega
      by_cases hc0 : 0 < c
      · have hc' : 0 < (c : Int) := by omega
        obtain rfl : k = b.length := by omega
        have go := cells_get hx (i := i + b.length) (by omega)
        unfold nv at go
        have hs := times_step (n := _) (by omega) hv rfl
        rw [hsame _ (Nat.le_refl _), hz _ (Nat.le_refl _), getD_none hkl, Nat.mul_zero, Nat.zero_add, Nat.add_zero, Nat.mod_eq_of_lt hc, Nat.div_eq_of_lt hc] at hs
        rw [hsame _ (Nat.le_refl _), hz _ (Nat.le_refl _)] at go
        have e1 : ((0 : Nat) : Int) + (c : Int) = (c : Int) := by omega
        have e3 : (i : Int) + (b.length : Int) = ((i + b.length : Nat) : Int) := by omega
        have em : ((c : Nat) : Int).tmod 256 = ((c : Nat) : Int) := by
          have : ((c : Nat) : Int).tmod 256 = ((c % 256 : Nat) : Int) := rfl
          rw [this, Nat.mod_eq_of_lt hc]
        have ed : ((c : Nat) : Int).tdiv 256 = 0 := by
          have : ((c : Nat) : Int).tdiv 256 = ((c / 256 : Nat) : Int) := rfl
          rw [this, Nat.div_eq_of_lt hc]; rfl
        have hik : ((i + b.length : Nat) : Int) < (n : Int) := by omega
        have c1 : wr1 g ⟨h.size, i + b.length, none⟩ (.int .i64 (c : Nat)) = _ := cells_set (f := nv) hx (i := i + b.length) (by omega) c rfl
        simp (config := {maxSteps := 2000000, implicitDefEqProofs := false}) only [go_sem, ↓reduceIte, Nat.reduceEqDiff, Nat.reduceAdd, Nat.reduceMul, Nat.reduceLeDiff, Nat.reduceLT, Nat.reduceSub, IntWalk.iteOmega, IntWalk.toNatUp, reduceCtorEq, false_and, and_false, false_or, or_false, true_or, or_true, not_true_eq_false, not_false_eq_true, Bool.not_true, Bool.not_false, Bool.and_true, Bool.true_and, Bool.and_false, Bool.false_and, Bool.not_eq_true, beq_self_eq_true, Nat.add_zero, Int.reduceLE, Int.reduceLT, Int.reduceToNat, Int.reduceNeg, f0, f1, f5, f6, f7, f8, hkl', hc', e3, hik, Int.toNat_natCast, Nat.zero_add, go, e1, em, ed, c1]
        refine ⟨⟨hg.addSet (Nat.le_refl _) _, f0, f1, f5, f6, b.length + 1, 0, o.set (i + b.length) c, by omega, by omega, rfl, rfl, by rw [List.length_set, hol], wo.set _ hc, cells_new hx, hs, fun j hj => ?_⟩, ?_⟩
        · rw [getD_set_ne (by omega)]; exact hsame j (by omega)
        · simp only [vi, updo_some, ↓reduceIte, f8]; omega
      · have hc' : ¬ 0 < (c : Int) := by omega
        obtain rfl : c = 0 := by omega
        rw [List.take_of_length_le (by omega), Nat.zero_mul, Nat.add_zero, hv0] at hv
        simp (config := {maxSteps := 2000000, implicitDefEqProofs := false}) only [go_sem, ↓reduceIte, Nat.reduceEqDiff, Nat.reduceAdd, Nat.reduceMul, Nat.reduceLeDiff, Nat.reduceLT, Nat.reduceSub, IntWalk.iteOmega, IntWalk.toNatUp, reduceCtorEq, false_and, and_false, false_or, or_false, true_or, or_true, not_true_eq_false, not_false_eq_true, Bool.not_true, Bool.not_false, Bool.and_true, Bool.true_and, Bool.and_false, Bool.false_and, Bool.not_eq_true, beq_self_eq_true, Nat.add_zero, Int.reduceLE, Int.reduceLT, Int.reduceToNat, Int.reduceNeg, f0, f1, f5, f6, f7, f8, hkl', hc']
        refine ⟨⟨hg, f0, f1, f5, i + 1, o, hlt, rfl, hol, wo, hx, ?_, fun j hj => ?_⟩, ?_⟩
        · rw [hv, valD_take, Nat.add_mul, ← hA]
          congr 1
          rw [Nat.mul_assoc, Nat.mul_comm (valD b), ← Nat.mul_assoc]
        · rw [hsame j (by omega)]; exact hz j (by omega)
        · simp only [vi, updo_some, ↓reduceIte, f6]; omega
  · have hge : ¬ (i : Int) < a.length := by omega
    obtain rfl : i = a.length := by omega
    rw [List.take_length] at hv0
    simp (config := {maxSteps := 2000000, implicitDefEqProofs := false}) only [go_sem, ↓reduceIte, Nat.reduceEqDiff, Nat.reduceAdd, Nat.reduceMul, Nat.reduceLeDiff, Nat.reduceLT, Nat.reduceSub, IntWalk.iteOmega, IntWalk.toNatUp, reduceCtorEq, false_and, and_false, false_or, or_false, true_or, or_true, not_true_eq_false, not_false_eq_true, Bool.not_true, Bool.not_false, Bool.and_true, Bool.true_and, Bool.and_false, Bool.false_and, Bool.not_eq_true, beq_self_eq_true, Nat.add_zero, Int.reduceLE, Int.reduceLT, Int.reduceToNat, Int.reduceNeg, f0, f5, f6, hge]
    refine ⟨⟨o0, ?_, wo0, hv0, by omega⟩, hg⟩
    have := nv_back (Nat.le_refl h.size) (c := n) hx0 (by rw [hol0]; simp) (by omega)
    rw [hol0] at this
    exact this
end Go.Proofs.Ytjgbajgmndkfjaa
