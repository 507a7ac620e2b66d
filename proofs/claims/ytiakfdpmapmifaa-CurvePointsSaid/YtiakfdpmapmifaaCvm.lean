/- The reference's product modulo 2^255 - 19; no condition but those in the statements. -/
import Derived.Test.YtiakfdpmapmifaaCvt
namespace Go.Proofs.Ytiakfdpmapmifaa
open Go Go.V
set_option linter.unusedSimpArgs false
set_option linter.unusedVariables false
set_option maxRecDepth 100000
theorem zrep_ints (n : Nat) : zrep n [Value.int .i64 0] = (List.replicate n 0).map nv := by
  induction n with
  | zero => rfl
  | succ n ih => rw [zrep, ih]; rfl
theorem Eg.zero (n : Nat) : Eg (List.replicate n 0) := by
  intro x hx; rw [List.eq_of_mem_replicate hx]; decide
theorem times_step {b o : List Nat} {i k c V A n : Nat} (hi : i + k < o.length) (hv : valE o + c * 65536 ^ (i + k) = V + A * valE (b.take k) * 65536 ^ i) (hn : n = o.getD (i + k) 0 + A * b.getD k 0 + c) :
    valE (o.set (i + k) (n % 65536)) + n / 65536 * 65536 ^ (i + (k + 1)) = V + A * valE (b.take (k + 1)) * 65536 ^ i := by
  have h1 := valE_set o (i + k) (n % 65536) hi
  rw [valE_take, ← Nat.add_assoc i k 1, Nat.pow_succ]
  have e := Nat.mod_add_div n 65536
  generalize n % 65536 = r at *
  generalize n / 65536 = q at *
  rw [hn] at e
  generalize o.getD (i + k) 0 = x at *
  generalize b.getD k 0 = y at *
  have e2 : (r + 65536 * q) * 65536 ^ (i + k) = (x + A * y + c) * 65536 ^ (i + k) := by rw [e]
  rw [Nat.pow_add] at *
  generalize (65536 : Nat) ^ i = X at *
  generalize (65536 : Nat) ^ k = Y at *
  generalize valE (b.take k) = B at *
  generalize valE (o.set (i + k) r) = W at *
  generalize valE o = O at *
  grind
theorem getD_set_ne {l : List Nat} {i j x : Nat} (h : i ≠ j) : (l.set i x).getD j 0 = l.getD j 0 := by
  rw [List.getD_eq_getElem?_getD, List.getD_eq_getElem?_getD, List.getElem?_set_ne h]
theorem mul_small {m n : Nat} (hm : m < PN) (hn : n < PN) : m * n < H255 * 65536 ^ 16 := by
  have h1 : m * n ≤ PN * PN := Nat.mul_le_mul (by omega) (by omega)
  have h2 : PN * PN < H255 * 65536 ^ 16 := by decide
  omega
set_option maxHeartbeats 2000000 in
theorem curveTimes_rf (T : World) (h : Hp) (va vb : Value) (a b : List Nat) (xz yz : Int) (sa : IT h va a) (sb : IT h vb b) (ra : Rf a xz) (rb : Rf b yz) :
    CallsH Try.prog T 50 #[va, vb] h fun v' h' => (∃ o, IT h' v' o ∧ Rf o (xz * yz)) ∧ Bel h.size h h' := by
  obtain ⟨p, cp, rfl, hca⟩ := nv_open sa
  obtain ⟨q, cq, rfl, hcb⟩ := nv_open sb
  have la := ra.1.1
  have lb := rb.1.1
  have wa := ra.1.2.1
  have wb := rb.1.2.1
  obtain ⟨ba, oa, rfl, hba, hca⟩ := hca (by intro e; rw [e] at la; cases la)
  obtain ⟨bb, ob, rfl, hbb, hcb⟩ := hcb (by intro e; rw [e] at lb; cases lb)
  rw [la] at hca sa ⊢
  rw [lb] at hcb sb ⊢
  refine CallsH.of_code' (args := [_, _]) Try.func50 rfl rfl rfl rfl ?_
  simp (config := {maxSteps := 2000000, implicitDefEqProofs := false}) only [go_sem, ↓reduceIte, Nat.reduceEqDiff, Nat.reduceAdd, Nat.reduceMul, Nat.reduceLeDiff, Nat.reduceLT, Nat.reduceSub, IntWalk.iteOmega, IntWalk.toNatUp, reduceCtorEq, false_and, and_false, false_or, or_false, true_or, or_true, not_true_eq_false, not_false_eq_true, Bool.not_true, Bool.not_false, Bool.and_true, Bool.true_and, Bool.and_false, Bool.false_and, Bool.not_eq_true, beq_self_eq_true, Nat.add_zero, Int.reduceLE, Int.reduceLT, Int.reduceToNat, Int.reduceNeg, zrep_ints]
  refine VS.loop' (fun F g => Bel h.size h g ∧ F 0 = .slice (some ⟨ba, oa, none⟩) 16 cp ∧ F 1 = .slice (some ⟨bb, ob, none⟩) 16 cq ∧ F 5 = .slice (some ⟨h.size, 0, none⟩) 33 33 ∧ ∃ (i : Nat) (o : List Nat), i ≤ 16 ∧ F 6 = .int .i64 i ∧ o.length = 33 ∧ Eg o ∧ g[h.size]? = some (.cells (o.map nv ++ []).toArray 3) ∧ valE o = valE (a.take i) * valE b ∧ ∀ j, i + 16 ≤ j → o.getD j 0 = 0)
    (fun F _ => 16 - (vi (F 6)).toNat) rfl ⟨(Bel.refl _ _).addP (Nat.le_refl _) _, rfl, rfl, rfl, 0, List.replicate 33 0, by omega, rfl, by simp, Eg.zero 33, by rw [List.append_nil]; exact get_push_last, by rw [valE_zero]; simp [valE], fun j _ => ?_⟩ ?_
  · rw [List.getD_eq_getElem?_getD, List.getElem?_replicate]; split <;> rfl
  rintro F g ⟨hg, f0, f1, f5, i, o0, hi, f6, hol0, wo0, hx0, hv0, hz⟩
  by_cases hlt : i < 16
  · have hlt' : (i : Int) < 16 := by omega
    have hia := wa.getD i
    obtain ⟨A, hA⟩ : ∃ A, A = a.getD i 0 := ⟨_, rfl⟩
    simp (config := {maxSteps := 2000000, implicitDefEqProofs := false}) only [go_sem, ↓reduceIte, Nat.reduceEqDiff, Nat.reduceAdd, Nat.reduceMul, Nat.reduceLeDiff, Nat.reduceLT, Nat.reduceSub, IntWalk.iteOmega, IntWalk.toNatUp, reduceCtorEq, false_and, and_false, false_or, or_false, true_or, or_true, not_true_eq_false, not_false_eq_true, Bool.not_true, Bool.not_false, Bool.and_true, Bool.true_and, Bool.and_false, Bool.false_and, Bool.not_eq_true, beq_self_eq_true, Nat.add_zero, Int.reduceLE, Int.reduceLT, Int.reduceToNat, Int.reduceNeg, f0, f6, hlt']
    refine VS.loop' (fun F g => Bel h.size h g ∧ F 0 = .slice (some ⟨ba, oa, none⟩) 16 cp ∧ F 1 = .slice (some ⟨bb, ob, none⟩) 16 cq ∧ F 5 = .slice (some ⟨h.size, 0, none⟩) 33 33 ∧ F 6 = .int .i64 i ∧ ∃ (k c : Nat) (o : List Nat), k ≤ 16 ∧ c < 65536 ∧ F 8 = .int .i64 k ∧ F 7 = .int .i64 c ∧ o.length = 33 ∧ Eg o ∧ g[h.size]? = some (.cells (o.map nv ++ []).toArray 3) ∧ valE o + c * 65536 ^ (i + k) = valE o0 + A * valE (b.take k) * 65536 ^ i ∧ ∀ j, i + k ≤ j → o.getD j 0 = o0.getD j 0)
      (fun F _ => 16 - (vi (F 8)).toNat) rfl ⟨hg, f0, f1, f5, f6, 0, 0, o0, by omega, by omega, rfl, rfl, hol0, wo0, hx0, by simp [valE], fun j _ => rfl⟩ ?_
    clear f0 f1 f5 f6 hg hx0
    rintro F g ⟨hg, f0, f1, f5, f6, k, c, o, hk, hc, f8, f7, hol, wo, hx, hv, hsame⟩
    by_cases hkl : k < 16
    · have hkl' : (k : Int) < 16 := by omega
      have ga : V.hc g ⟨ba, oa + i, none⟩ = some (.int .i64 (a.getD i 0 : Nat)) := by rw [hg.hc (by exact hba)]; exact hca i (by omega)
      have gb : V.hc g ⟨bb, ob + k, none⟩ = some (.int .i64 (b.getD k 0 : Nat)) := by rw [hg.hc (by exact hbb)]; exact hcb k (by omega)
      have go := cells_get hx (i := i + k) (by omega)
      unfold nv at go
      rw [← hA] at ga hia
      have hib := wb.getD k
      have hio := wo.getD (i + k)
      have hs := times_step (n := _) (by omega) hv rfl
      obtain ⟨B, hB⟩ : ∃ B, B = b.getD k 0 := ⟨_, rfl⟩
      obtain ⟨x, hxx⟩ : ∃ x, x = o.getD (i + k) 0 := ⟨_, rfl⟩
      rw [← hB] at gb hs hib
      rw [← hxx] at go hs hio
      have hAB : A * B ≤ 65535 * 65535 := Nat.mul_le_mul (by omega) (by omega)
      have e0 : (A : Int) * (B : Int) = ((A * B : Nat) : Int) := (Int.natCast_mul A B).symm
      obtain ⟨M, hM⟩ : ∃ M, M = A * B := ⟨_, rfl⟩
      rw [← hM] at e0 hs hAB
      have e1 : (x : Int) + (M : Int) = ((x + M : Nat) : Int) := by omega
      have e2 : ((x + M : Nat) : Int) + (c : Int) = ((x + M + c : Nat) : Int) := by omega
      have e3 : (i : Int) + (k : Int) = ((i + k : Nat) : Int) := by omega
      obtain ⟨t, ht⟩ : ∃ t, t = x + M + c := ⟨_, rfl⟩
      rw [← ht] at e2 hs
      have em : ((t : Nat) : Int).tmod 65536 = ((t % 65536 : Nat) : Int) := rfl
      have ed : ((t : Nat) : Int).tdiv 65536 = ((t / 65536 : Nat) : Int) := rfl
      have ht2 : t ≤ 4294967295 := by omega
      have hik : ((i + k : Nat) : Int) < 33 := by omega
      simp (config := {maxSteps := 2000000, implicitDefEqProofs := false}) only [go_sem, ↓reduceIte, Nat.reduceEqDiff, Nat.reduceAdd, Nat.reduceMul, Nat.reduceLeDiff, Nat.reduceLT, Nat.reduceSub, IntWalk.iteOmega, IntWalk.toNatUp, reduceCtorEq, false_and, and_false, false_or, or_false, true_or, or_true, not_true_eq_false, not_false_eq_true, Bool.not_true, Bool.not_false, Bool.and_true, Bool.true_and, Bool.and_false, Bool.false_and, Bool.not_eq_true, beq_self_eq_true, Nat.add_zero, Int.reduceLE, Int.reduceLT, Int.reduceToNat, Int.reduceNeg, f0, f1, f5, f6, f7, f8, hkl', e3, hik, Int.toNat_natCast, Nat.zero_add, go, e1]
      refine VS.q mixed (by kernel_rfl) ?_
      have c1 : wr1 g ⟨h.size, i + k, none⟩ (.int .i64 (t % 65536 : Nat)) = _ := cells_set (f := nv) hx (i := i + k) (by omega) (t % 65536) rfl
      simp (config := {maxSteps := 2000000, implicitDefEqProofs := false}) only [go_sem, ↓reduceIte, Nat.reduceEqDiff, Nat.reduceAdd, Nat.reduceMul, Nat.reduceLeDiff, Nat.reduceLT, Nat.reduceSub, IntWalk.iteOmega, IntWalk.toNatUp, reduceCtorEq, false_and, and_false, false_or, or_false, true_or, or_true, not_true_eq_false, not_false_eq_true, Bool.not_true, Bool.not_false, Bool.and_true, Bool.true_and, Bool.and_false, Bool.false_and, Bool.not_eq_true, beq_self_eq_true, Nat.add_zero, Int.reduceLE, Int.reduceLT, Int.reduceToNat, Int.reduceNeg, f0, f1, f5, f6, f7, f8, hlt', hkl', e3, hik, go, ga, gb, e0, e1, e2, em, ed, c1]
      refine ⟨⟨hg.addSet (Nat.le_refl _) _, f0, f1, f5, f6, k + 1, t / 65536, o.set (i + k) (t % 65536), by omega, by omega, rfl, rfl, by rw [List.length_set, hol], wo.set _ (by omega), cells_new hx, hs, fun j hj => ?_⟩, ?_⟩
      · rw [getD_set_ne (by omega)]; exact hsame j (by omega)
      · simp only [vi, updo_some, ↓reduceIte, f8]; omega
    · have hkl' : ¬ (k : Int) < 16 := by omega
      obtain rfl : k = 16 := by omega
      have c16 : ((16 : Nat) : Int) = 16 := rfl
      rw [c16] at f8
      have e3 : (i : Int) + 16 = ((i + 16 : Nat) : Int) := rfl
      have hik : ((i + 16 : Nat) : Int) < 33 := by omega
      have c1 : wr1 g ⟨h.size, i + 16, none⟩ (.int .i64 (c : Nat)) = _ := cells_set (f := nv) hx (i := i + 16) (by omega) c rfl
      simp (config := {maxSteps := 2000000, implicitDefEqProofs := false}) only [go_sem, ↓reduceIte, Nat.reduceEqDiff, Nat.reduceAdd, Nat.reduceMul, Nat.reduceLeDiff, Nat.reduceLT, Nat.reduceSub, IntWalk.iteOmega, IntWalk.toNatUp, reduceCtorEq, false_and, and_false, false_or, or_false, true_or, or_true, not_true_eq_false, not_false_eq_true, Bool.not_true, Bool.not_false, Bool.and_true, Bool.true_and, Bool.and_false, Bool.false_and, Bool.not_eq_true, beq_self_eq_true, Nat.add_zero, Int.reduceLE, Int.reduceLT, Int.reduceToNat, Int.reduceNeg, f0, f1, f5, f6, f7, f8, e3, hik, Int.toNat_natCast, Nat.zero_add, c1]
      refine ⟨⟨hg.addSet (Nat.le_refl _) _, f0, f1, f5, i + 1, o.set (i + 16) c, hlt, rfl, by rw [List.length_set, hol], wo.set _ hc, cells_new hx, ?_, fun j hj => ?_⟩, ?_⟩
      · have h1 := valE_set o (i + 16) c (by omega)
        rw [hsame _ (Nat.le_refl _), hz _ (Nat.le_refl _), Nat.zero_mul, Nat.add_zero, hv, hv0, List.take_of_length_le (l := b) (by omega)] at h1
        rw [h1, valE_take, Nat.add_mul, ← hA]
        congr 1
        rw [Nat.mul_assoc, Nat.mul_comm (valE b), ← Nat.mul_assoc]
      · rw [getD_set_ne (by omega), hsame j (by omega)]; exact hz j (by omega)
      · simp only [vi, updo_some, ↓reduceIte, f6]; omega
  · have hge : ¬ (i : Int) < 16 := by omega
    obtain rfl : i = 16 := by omega
    have c16 : ((16 : Nat) : Int) = 16 := rfl
    rw [c16] at f6
    rw [List.take_of_length_le (by omega)] at hv0
    have ho : IO h.size g (.slice (some ⟨h.size, 0, none⟩) 33 33) o0 := by
      have := nv_back (Nat.le_refl h.size) (c := 33) hx0 (by rw [hol0]; simp) (by omega)
      rw [hol0] at this
      exact this
    simp (config := {maxSteps := 2000000, implicitDefEqProofs := false}) only [go_sem, ↓reduceIte, Nat.reduceEqDiff, Nat.reduceAdd, Nat.reduceMul, Nat.reduceLeDiff, Nat.reduceLT, Nat.reduceSub, IntWalk.iteOmega, IntWalk.toNatUp, reduceCtorEq, false_and, and_false, false_or, or_false, true_or, or_true, not_true_eq_false, not_false_eq_true, Bool.not_true, Bool.not_false, Bool.and_true, Bool.true_and, Bool.and_false, Bool.false_and, Bool.not_eq_true, beq_self_eq_true, Nat.add_zero, Int.reduceLE, Int.reduceLT, Int.reduceToNat, Int.reduceNeg, f0, f5, f6]
    refine (curveCut_ok T g _ o0 ho.ts wo0 (by omega) (by omega) (by rw [hv0]; exact mul_small ra.1.2.2 rb.1.2.2)).use ?_
    rintro v2 g2 ⟨⟨e, o2, c2, he⟩, b2⟩
    rw [hv0] at he
    simp (config := {maxSteps := 2000000, implicitDefEqProofs := false}) only [go_sem, ↓reduceIte, Nat.reduceEqDiff, Nat.reduceAdd, Nat.reduceMul, Nat.reduceLeDiff, Nat.reduceLT, Nat.reduceSub, IntWalk.iteOmega, IntWalk.toNatUp, reduceCtorEq, false_and, and_false, false_or, or_false, true_or, or_true, not_true_eq_false, not_false_eq_true, Bool.not_true, Bool.not_false, Bool.and_true, Bool.true_and, Bool.and_false, Bool.false_and, Bool.not_eq_true, beq_self_eq_true, Nat.add_zero, Int.reduceLE, Int.reduceLT, Int.reduceToNat, Int.reduceNeg]
    refine ⟨⟨e, o2.ts, c2, (like_mod he).trans ?_⟩, hg.trans (b2.mono hg.size)⟩
    rw [Int.natCast_mul]
    exact ra.2.mul rb.2
end Go.Proofs.Ytiakfdpmapmifaa
