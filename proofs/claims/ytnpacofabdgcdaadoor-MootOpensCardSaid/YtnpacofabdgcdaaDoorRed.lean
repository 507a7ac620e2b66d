/- The reference's product of numbers as digits; no condition but those in the statements. -/
import Derived.Test.YtnpacofabdgcdaaDoorCar
namespace Go.Proofs.YtnpacofabdgcdaaDoor
open Go Go.V
set_option linter.unusedSimpArgs false
set_option linter.unusedVariables false
set_option maxRecDepth 100000
theorem zrep_ints (n : Nat) : zrep n [Value.int .i64 0] = (List.replicate n 0).map nv := by
  induction n with
  | zero => rfl
  | succ n ih => rw [zrep, ih]; rfl
theorem Dg.zero (n : Nat) : Dg (List.replicate n 0) := by
  intro x hx; rw [List.eq_of_mem_replicate hx]; decide
theorem times_step {b o : List Nat} {i k c V A n : Nat} (hi : i + k < o.length) (hv : valD o + c * 256 ^ (i + k) = V + A * valD (b.take k) * 256 ^ i) (hn : n = o.getD (i + k) 0 + c + A * b.getD k 0) :
    valD (o.set (i + k) (n % 256)) + n / 256 * 256 ^ (i + (k + 1)) = V + A * valD (b.take (k + 1)) * 256 ^ i := by
  have h1 := valD_set o (i + k) (n % 256) hi
  rw [valD_take, Nat.mul_add, Nat.add_mul, ← Nat.add_assoc i k 1, Nat.pow_succ]
  have e1 : A * (b.getD k 0 * 256 ^ k) * 256 ^ i = A * b.getD k 0 * 256 ^ (i + k) := by
    rw [Nat.pow_add, ← Nat.mul_assoc, Nat.mul_assoc, Nat.mul_comm (256 ^ k)]
  have e2 : n % 256 * 256 ^ (i + k) + n / 256 * (256 ^ (i + k) * 256) = n * 256 ^ (i + k) := by
    rw [Nat.mul_comm (256 ^ (i + k)) 256, ← Nat.mul_assoc, ← Nat.add_mul]
    congr 1; omega
  have e3 : n * 256 ^ (i + k) = o.getD (i + k) 0 * 256 ^ (i + k) + c * 256 ^ (i + k) + A * b.getD k 0 * 256 ^ (i + k) := by rw [hn, Nat.add_mul, Nat.add_mul]
  rw [e1]
  omega
theorem getD_set_ne {l : List Nat} {i j x : Nat} (h : i ≠ j) : (l.set i x).getD j 0 = l.getD j 0 := by
  rw [List.getD_eq_getElem?_getD, List.getD_eq_getElem?_getD, List.getElem?_set_ne h]
set_option maxHeartbeats 1000000 in
theorem timesDigits_ok (T : World) (h : Hp) (va vb : Value) (a b : List Nat) (sa : IT h va a) (sb : IT h vb b) (wa : Dg a) (wb : Dg b) (hl : a.length + b.length ≤ 1000000) :
    CallsH Tryd.prog T 228 #[va, vb] h fun v' h' => (∃ o, IO h.size h' v' o ∧ Dg o ∧ valD o = valD a * valD b ∧ o.length = a.length + b.length + 1) ∧ Bel h.size h h' := by
  obtain ⟨p, cp, rfl, hca⟩ := nv_open sa
  obtain ⟨q, cq, rfl, hcb⟩ := nv_open sb
  refine CallsH.of_code' (args := [_, _]) Tryd.func228 rfl rfl rfl rfl ?_
  have l1 : (a.length : Int) + (b.length : Int) = ((a.length + b.length : Nat) : Int) := by omega
  have l2 : ((a.length + b.length : Nat) : Int) + 1 = ((a.length + b.length + 1 : Nat) : Int) := by omega
  obtain ⟨n, hn⟩ : ∃ n, n = a.length + b.length + 1 := ⟨_, rfl⟩
  rw [← hn] at l2
  have l3 : 8 * ((n : Nat) : Int) ≤ 281474976710656 := by omega
  simp (config := {maxSteps := 2000000, implicitDefEqProofs := false}) only [go_sem, ↓reduceIte, Nat.reduceEqDiff, Nat.reduceAdd, Nat.reduceMul, Nat.reduceLeDiff, Nat.reduceLT, Nat.reduceSub, IntWalk.iteOmega, IntWalk.toNatUp, reduceCtorEq, Int.reduceLE, Int.reduceLT, Int.reduceToNat, Int.reduceNeg, l1, l2, l3, zrep_ints, Int.toNat_natCast]
  refine VS.loop' (fun F g => Bel h.size h g ∧ F 0 = .slice p a.length cp ∧ F 1 = .slice q b.length cq ∧ F 5 = .slice (some ⟨h.size, 0, none⟩) n n ∧ ∃ (i : Nat) (o : List Nat), i ≤ a.length ∧ F 6 = .int .i64 i ∧ o.length = n ∧ Dg o ∧ g[h.size]? = some (.cells (o.map nv ++ []).toArray 3) ∧ valD o = valD (a.take i) * valD b ∧ ∀ j, i + b.length ≤ j → o.getD j 0 = 0)
    (fun F _ => a.length - (vi (F 6)).toNat) rfl ⟨(Bel.refl _ _).addP (Nat.le_refl _) _, rfl, rfl, rfl, 0, List.replicate n 0, by omega, rfl, by simp, Dg.zero n, by rw [List.append_nil]; exact get_push_last, by rw [valD_zero]; simp [valD], fun j _ => ?_⟩ ?_
  · rw [List.getD_eq_getElem?_getD, List.getElem?_replicate]; split <;> rfl
  rintro F g ⟨hg, f0, f1, f5, i, o0, hi, f6, hol0, wo0, hx0, hv0, hz⟩
  by_cases hlt : i < a.length
  · have hlt' : (i : Int) < a.length := by omega
    obtain ⟨ba, oa, rfl, hba, hca⟩ := hca (by intro e; subst e; simp at hlt)
    have hia := wa.getD i
    obtain ⟨A, hA⟩ : ∃ A, A = a.getD i 0 := ⟨_, rfl⟩
    simp (config := {maxSteps := 2000000, implicitDefEqProofs := false}) only [go_sem, ↓reduceIte, Nat.reduceEqDiff, Nat.reduceAdd, Nat.reduceMul, Nat.reduceLeDiff, Nat.reduceLT, Nat.reduceSub, IntWalk.iteOmega, IntWalk.toNatUp, reduceCtorEq, Int.reduceLE, Int.reduceLT, Int.reduceToNat, Int.reduceNeg, f0, f6, hlt']
    refine VS.loop' (fun F g => Bel h.size h g ∧ F 0 = .slice (some ⟨ba, oa, none⟩) a.length cp ∧ F 1 = .slice q b.length cq ∧ F 5 = .slice (some ⟨h.size, 0, none⟩) n n ∧ F 6 = .int .i64 i ∧ ∃ (k c : Nat) (o : List Nat), (k ≤ b.length ∨ k = b.length + 1 ∧ c = 0) ∧ c < 256 ∧ F 8 = .int .i64 k ∧ F 7 = .int .i64 c ∧ o.length = n ∧ Dg o ∧ g[h.size]? = some (.cells (o.map nv ++ []).toArray 3) ∧ valD o + c * 256 ^ (i + k) = valD o0 + A * valD (b.take k) * 256 ^ i ∧ ∀ j, i + k ≤ j → o.getD j 0 = o0.getD j 0)
      (fun F _ => b.length + 1 - (vi (F 8)).toNat) rfl ⟨hg, f0, f1, f5, f6, 0, 0, o0, by omega, by omega, rfl, rfl, hol0, wo0, hx0, by simp [valD], fun j _ => rfl⟩ ?_
    clear f0 f1 f5 f6 hg hx0
    rintro F g ⟨hg, f0, f1, f5, f6, k, c, o, hk, hc, f8, f7, hol, wo, hx, hv, hsame⟩
    by_cases hkl : k < b.length
    · have hkl' : (k : Int) < b.length := by omega
      obtain ⟨bb, ob, rfl, hbb, hcb⟩ := hcb (by intro e; subst e; simp at hkl)
      have ga : V.hc g ⟨ba, oa + i, none⟩ = some (.int .i64 (a.getD i 0 : Nat)) := by rw [hg.hc (by exact hba)]; exact hca i hlt
      have gb : V.hc g ⟨bb, ob + k, none⟩ = some (.int .i64 (b.getD k 0 : Nat)) := by rw [hg.hc (by exact hbb)]; exact hcb k hkl
      have go := cells_get hx (i := i + k) (by omega)
      unfold nv at go
      rw [← hA] at ga hia
      have hib := wb.getD k
      have hio := wo.getD (i + k)
      have hs := times_step (n := _) (by omega) hv rfl
      obtain ⟨B, hB⟩ : ∃ B, B = b.getD k 0 := ⟨_, rfl⟩
      obtain ⟨x, hxx⟩ : ∃ x, x = o.getD (i + k) 0 := ⟨_, rfl⟩
      rw [← hB] at gb hs hib
      rw [← hxx] at go hs hio
      have hAB : A * B ≤ 255 * 255 := Nat.mul_le_mul (by omega) (by omega)
      have e0 : (A : Int) * (B : Int) = ((A * B : Nat) : Int) := (Int.natCast_mul A B).symm
      obtain ⟨M, hM⟩ : ∃ M, M = A * B := ⟨_, rfl⟩
      rw [← hM] at e0 hs hAB
      have e1 : (x : Int) + (c : Int) = ((x + c : Nat) : Int) := by omega
      have e2 : ((x + c : Nat) : Int) + (M : Int) = ((x + c + M : Nat) : Int) := by omega
      have e3 : (i : Int) + (k : Int) = ((i + k : Nat) : Int) := by omega
      obtain ⟨t, ht⟩ : ∃ t, t = x + c + M := ⟨_, rfl⟩
      rw [← ht] at e2 hs
      have em : ((t : Nat) : Int).tmod 256 = ((t % 256 : Nat) : Int) := rfl
      have ed : ((t : Nat) : Int).tdiv 256 = ((t / 256 : Nat) : Int) := rfl
      have ht2 : t ≤ 65535 := by omega
      have hik : ((i + k : Nat) : Int) < (n : Int) := by omega
      simp (config := {maxSteps := 2000000, implicitDefEqProofs := false}) only [go_sem, ↓reduceIte, Nat.reduceEqDiff, Nat.reduceAdd, Nat.reduceMul, Nat.reduceLeDiff, Nat.reduceLT, Nat.reduceSub, IntWalk.iteOmega, IntWalk.toNatUp, reduceCtorEq, Int.reduceLE, Int.reduceLT, Int.reduceToNat, Int.reduceNeg, f0, f1, f5, f6, f7, f8, hkl', e3, hik, Int.toNat_natCast, Nat.zero_add, go, e1]
      refine VS.q mixed (by kernel_rfl) ?_
      have c1 : wr1 g ⟨h.size, i + k, none⟩ (.int .i64 (t % 256 : Nat)) = _ := cells_set (f := nv) hx (i := i + k) (by omega) (t % 256) rfl
      simp (config := {maxSteps := 2000000, implicitDefEqProofs := false}) only [go_sem, ↓reduceIte, Nat.reduceEqDiff, Nat.reduceAdd, Nat.reduceMul, Nat.reduceLeDiff, Nat.reduceLT, Nat.reduceSub, IntWalk.iteOmega, IntWalk.toNatUp, reduceCtorEq, Int.reduceLE, Int.reduceLT, Int.reduceToNat, Int.reduceNeg, f0, f1, f5, f6, f7, f8, hlt', hkl', e3, hik, ga, gb, e0, e2, em, ed, c1]
      refine ⟨⟨hg.addSet (Nat.le_refl _) _, f0, f1, f5, f6, k + 1, t / 256, o.set (i + k) (t % 256), by omega, by omega, rfl, rfl, by rw [List.length_set, hol], wo.set _ (by omega), cells_new hx, hs, fun j hj => ?_⟩, ?_⟩
      · rw [getD_set_ne (by omega)]; exact hsame j (by omega)
      · simp only [vi, updo_some, ↓reduceIte, f8]; omega
    · have hkl' : ¬ (k : Int) < b.length := by omega
      by_cases hc0 : 0 < c
      · have hc' : 0 < (c : Int) := by omega
        obtain rfl : k = b.length := by omega
        have go := cells_get hx (i := i + b.length) (by omega)
        unfold nv at go
        have hs := times_step (n := _) (by omega) hv rfl
        rw [hsame _ (Nat.le_refl _), hz _ (Nat.le_refl _), getD_none hkl, Nat.mul_zero, Nat.zero_add, Nat.add_zero, Nat.mod_eq_of_lt hc, Nat.div_eq_of_lt hc] at hs
        rw [hsame _ (Nat.le_refl _), hz _ (Nat.le_refl _)] at go
        have e1 : ((0 : Nat) : Int) + (c : Int) = (c : Int) := by omega
        have e3 : (i : Int) + (b.length : Int) = ((i + b.length : Nat) : Int) := by omega
        have em : ((c : Nat) : Int).tmod 256 = ((c : Nat) : Int) := by
          have : ((c : Nat) : Int).tmod 256 = ((c % 256 : Nat) : Int) := rfl
          rw [this, Nat.mod_eq_of_lt hc]
        have ed : ((c : Nat) : Int).tdiv 256 = 0 := by
          have : ((c : Nat) : Int).tdiv 256 = ((c / 256 : Nat) : Int) := rfl
          rw [this, Nat.div_eq_of_lt hc]; rfl
        have hik : ((i + b.length : Nat) : Int) < (n : Int) := by omega
        have c1 : wr1 g ⟨h.size, i + b.length, none⟩ (.int .i64 (c : Nat)) = _ := cells_set (f := nv) hx (i := i + b.length) (by omega) c rfl
        simp (config := {maxSteps := 2000000, implicitDefEqProofs := false}) only [go_sem, ↓reduceIte, Nat.reduceEqDiff, Nat.reduceAdd, Nat.reduceMul, Nat.reduceLeDiff, Nat.reduceLT, Nat.reduceSub, IntWalk.iteOmega, IntWalk.toNatUp, reduceCtorEq, Int.reduceLE, Int.reduceLT, Int.reduceToNat, Int.reduceNeg, f0, f1, f5, f6, f7, f8, hkl', hc', e3, hik, Int.toNat_natCast, Nat.zero_add, go, e1, em, ed, c1]
        refine ⟨⟨hg.addSet (Nat.le_refl _) _, f0, f1, f5, f6, b.length + 1, 0, o.set (i + b.length) c, by omega, by omega, rfl, rfl, by rw [List.length_set, hol], wo.set _ hc, cells_new hx, hs, fun j hj => ?_⟩, ?_⟩
        · rw [getD_set_ne (by omega)]; exact hsame j (by omega)
        · simp only [vi, updo_some, ↓reduceIte, f8]; omega
      · have hc' : ¬ 0 < (c : Int) := by omega
        obtain rfl : c = 0 := by omega
        rw [List.take_of_length_le (by omega), Nat.zero_mul, Nat.add_zero, hv0] at hv
        simp (config := {maxSteps := 2000000, implicitDefEqProofs := false}) only [go_sem, ↓reduceIte, Nat.reduceEqDiff, Nat.reduceAdd, Nat.reduceMul, Nat.reduceLeDiff, Nat.reduceLT, Nat.reduceSub, IntWalk.iteOmega, IntWalk.toNatUp, reduceCtorEq, Int.reduceLE, Int.reduceLT, Int.reduceToNat, Int.reduceNeg, f0, f1, f5, f6, f7, f8, hkl', hc']
        refine ⟨⟨hg, f0, f1, f5, i + 1, o, hlt, rfl, hol, wo, hx, ?_, fun j hj => ?_⟩, ?_⟩
        · rw [hv, valD_take, Nat.add_mul, ← hA]
          congr 1
          rw [Nat.mul_assoc, Nat.mul_comm (valD b), ← Nat.mul_assoc]
        · rw [hsame j (by omega)]; exact hz j (by omega)
        · simp only [vi, updo_some, ↓reduceIte, f6]; omega
  · have hge : ¬ (i : Int) < a.length := by omega
    obtain rfl : i = a.length := by omega
    rw [List.take_length] at hv0
    simp (config := {maxSteps := 2000000, implicitDefEqProofs := false}) only [go_sem, ↓reduceIte, Nat.reduceEqDiff, Nat.reduceAdd, Nat.reduceMul, Nat.reduceLeDiff, Nat.reduceLT, Nat.reduceSub, IntWalk.iteOmega, IntWalk.toNatUp, reduceCtorEq, Int.reduceLE, Int.reduceLT, Int.reduceToNat, Int.reduceNeg, f0, f5, f6, hge]
    refine ⟨⟨o0, ?_, wo0, hv0, by omega⟩, hg⟩
    have := nv_back (Nat.le_refl h.size) (c := n) hx0 (by rw [hol0]; simp) (by omega)
    rw [hol0] at this
    exact this
end Go.Proofs.YtnpacofabdgcdaaDoor
namespace Go.Proofs.YtnpacofabdgcdaaDoor
open Go Go.V
set_option linter.unusedSimpArgs false
set_option linter.unusedVariables false
set_option maxRecDepth 100000
def H16 : Nat := 256 ^ 16
theorem Dg.take {l : List Nat} (w : Dg l) (i : Nat) : Dg (l.take i) := fun x hx => w x (List.mem_of_mem_take hx)
theorem cut_step {a hi : List Nat} {i lo : Nat} (h16 : 16 ≤ i) (hl : hi.length = i - 16) (hv : valD (a.take i) + a.getD i 0 % 4 * 256 ^ i = lo + 4 * H16 * valD hi) :
    valD (a.take (i + 1)) + a.getD (i + 1) 0 % 4 * 256 ^ (i + 1) = lo + 4 * H16 * valD (hi ++ [a.getD i 0 / 4 + a.getD (i + 1) 0 % 4 * 64]) := by
  rw [valD_snoc, valD_take, hl]
  generalize a.getD i 0 = x at *
  generalize a.getD (i + 1) 0 = y at *
  generalize valD (a.take i) = A at *
  generalize valD hi = V at *
  obtain ⟨j, rfl⟩ : ∃ j, i = j + 16 := ⟨i - 16, by omega⟩
  have p2 : 256 ^ (j + 16) = 256 ^ j * 256 ^ 16 := Nat.pow_add _ _ _
  have p1 : 256 ^ (j + 16 + 1) = 256 ^ (j + 16) * 256 := Nat.pow_succ _ _
  rw [Nat.add_sub_cancel, p1, p2]
  rw [p2] at hv
  clear p1 p2
  unfold H16 at *
  generalize 256 ^ j = P at *
  generalize 256 ^ 16 = Q at *
  have e0 : P * Q = Q * P := Nat.mul_comm _ _
  rw [e0]
  rw [e0] at hv
  clear e0
  have e1 : 4 * Q * (V + (x / 4 + y % 4 * 64) * P) = 4 * Q * V + (x / 4 * 4 + y % 4 * 256) * (Q * P) := by
    rw [Nat.mul_add]
    congr 1
    rw [show 4 * Q * ((x / 4 + y % 4 * 64) * P) = (4 * (x / 4 + y % 4 * 64)) * (Q * P) by ac_rfl]
    congr 1; omega
  rw [e1]
  generalize Q * P = R at *
  have e2 : x * R = x / 4 * 4 * R + x % 4 * R := by rw [← Nat.add_mul]; congr 1; omega
  have e3 : y % 4 * (R * 256) = y % 4 * 256 * R := by ac_rfl
  rw [e2, e3, Nat.add_mul]
  omega
def CutAt (a lo hi : List Nat) (i : Nat) : Prop := valD (a.take i) + a.getD i 0 % 4 * 256 ^ i = valD lo + 4 * H16 * valD hi
theorem CutAt.step {a lo hi : List Nat} {i : Nat} (h16 : 16 ≤ i) (hl : hi.length = i - 16) (hv : CutAt a lo hi i) : CutAt a lo (hi ++ [a.getD i 0 / 4 + a.getD (i + 1) 0 % 4 * 64]) (i + 1) := cut_step h16 hl hv
theorem CutAt.start {a : List Nat} {i : Nat} (hi : i = 16) (h : 16 < a.length) : CutAt a (a.take 16 ++ [a.getD i 0 % 4]) [] i := by
  unfold CutAt
  rw [valD_snoc, List.length_take, Nat.min_eq_left (by omega), ← hi]
  simp only [valD, Nat.mul_zero, Nat.add_zero]
theorem CutAt.first {a : List Nat} {x y : Nat} (h : 16 < a.length) (hx : x = a.getD 16 0) (hy : y = a.getD 17 0) : CutAt a (a.take 16 ++ [x % 4]) [x / 4 + y % 4 * 64] 17 := by
  have := (CutAt.start rfl h).step (Nat.le_refl 16) rfl
  rw [← hx, ← hy] at this
  exact this
theorem lo_lt {A m Q : Nat} (h : A < Q) (hm : m ≤ 3) : A + m * Q < 4 * Q := by
  have := Nat.mul_le_mul_right Q hm
  omega
theorem lo_lt0 {A B Q : Nat} (h : A < B) (h2 : B ≤ Q) : A < 4 * Q := by omega
theorem H16_eq : 256 ^ 16 = H16 := rfl
theorem IO.snoc_at {B : Nat} {h : Hp} {v : Value} {l : List Nat} {i : Nat} (hi : i < l.length) (s : IO B h v (l.take i ++ [l.getD i 0])) : IO B h v (l.take (i + 1)) := by
  rw [take_snoc _ i hi]
  have e : l.getD i 0 = l[i] := by rw [List.getD_eq_getElem?_getD, List.getElem?_eq_getElem hi]; rfl
  rw [← e]; exact s
set_option maxHeartbeats 1000000 in
theorem cutDigits_ok (T : World) (h : Hp) (v : Value) (a : List Nat) (s : IT h v a) (w : Dg a) (hl : a.length ≤ 1000000) :
    CallsH Tryd.prog T 247 #[v, .int .i64 130] h fun v' h' => (∃ v1 v2 lo hi, v' = .tuple #[v1, v2] ∧ IO h.size h' v1 lo ∧ IO h.size h' v2 hi ∧ Dg lo ∧ Dg hi ∧ valD a = valD lo + 4 * H16 * valD hi ∧ valD lo < 4 * H16 ∧ lo.length ≤ 17 ∧ hi.length ≤ a.length - 16) ∧ Bel h.size h h' := by
  obtain ⟨p, cp, rfl, hcs⟩ := nv_open s
  refine CallsH.of_code' (args := [_, _]) Tryd.func247 rfl rfl rfl rfl ?_
  have t1 : (130 : Int).tdiv 8 = 16 := rfl
  have t2 : (130 : Int).tmod 8 = ((2 : Nat) : Int) := rfl
  simp (config := {maxSteps := 2000000, implicitDefEqProofs := false}) only [go_sem, ↓reduceIte, Nat.reduceEqDiff, Nat.reduceAdd, Nat.reduceMul, Nat.reduceLeDiff, Nat.reduceLT, Nat.reduceSub, IntWalk.iteOmega, IntWalk.toNatUp, reduceCtorEq, Int.reduceLE, Int.reduceLT, Int.reduceToNat, Int.reduceNeg, t1, t2]
  refine (power_ok T h 2 (by omega)).pure ?_
  have t3 : ((2 ^ 2 : Nat) : Int) = 4 := rfl
  simp (config := {maxSteps := 2000000, implicitDefEqProofs := false}) only [go_sem, ↓reduceIte, Nat.reduceEqDiff, Nat.reduceAdd, Nat.reduceMul, Nat.reduceLeDiff, Nat.reduceLT, Nat.reduceSub, IntWalk.iteOmega, IntWalk.toNatUp, reduceCtorEq, Int.reduceLE, Int.reduceLT, Int.reduceToNat, Int.reduceNeg, t3]
  refine VS.loop' (fun F g => Bel h.size h g ∧ F 0 = .slice p a.length cp ∧ F 8 = .int .i64 16 ∧ F 9 = .int .i64 4 ∧ ∃ i : Nat, i ≤ a.length ∧ F 10 = .int .i64 i ∧
      ((i ≤ 16 ∧ F 7 = .slice none 0 0 ∧ IO h.size g (F 6) (a.take i)) ∨ (16 < i ∧ ∃ (gh : Hp) (hi : List Nat), Bel h.size h gh ∧ Bel gh.size gh g ∧ IO h.size gh (F 6) (a.take 16 ++ [a.getD 16 0 % 4]) ∧ IO gh.size g (F 7) hi ∧ Dg hi ∧ hi.length = i - 16 ∧ CutAt a (a.take 16 ++ [a.getD 16 0 % 4]) hi i)))
    (fun F _ => a.length - (vi (F 10)).toNat) rfl ⟨Bel.refl _ _, rfl, rfl, rfl, 0, by omega, rfl, .inl ⟨by omega, rfl, Ots.nil _ _ _ _ _⟩⟩ ?_
  rintro F g ⟨hg, f0, f8, f9, i, hi, f10, hst⟩
  by_cases hlt : i < a.length
  · have hlt' : (i : Int) < a.length := by omega
    obtain ⟨bb, oo, rfl, hbb, hcs⟩ := hcs (by intro e; subst e; simp at hlt)
    have g1 : V.hc g ⟨bb, oo + i, none⟩ = some (.int .i64 (a.getD i 0 : Nat)) := by rw [hg.hc (by exact hbb)]; exact hcs i hlt
    have hx := w.getD i
    have hy := w.getD (i + 1)
    rcases hst with ⟨h16, f7, ho⟩ | ⟨h16, gh, hi', hgh, hgg, olo, ohi, whi, lhi, hv⟩
    · by_cases hlo : i < 16
      · have c1 : (i : Int) < 16 := by omega
        have c2 : ¬ (i : Int) = 16 := by omega
        have c3 : ¬ (16 : Int) ≤ i := by omega
        simp (config := {maxSteps := 2000000, implicitDefEqProofs := false}) only [go_sem, ↓reduceIte, Nat.reduceEqDiff, Nat.reduceAdd, Nat.reduceMul, Nat.reduceLeDiff, Nat.reduceLT, Nat.reduceSub, IntWalk.iteOmega, IntWalk.toNatUp, reduceCtorEq, Int.reduceLE, Int.reduceLT, Int.reduceToNat, Int.reduceNeg, f0, f8, f9, f10, hlt', g1, c1, c2, c3]
        refine append_ts (E := 3) (B := h.size) (n := 1) (bytes := 8) tsl155 Tryd.underlying155 tn3 tz3 rfl tb3 (fun _ => rfl) (ho.push _) (by have := hg.size; simp; omega) (Ts.one (enc := fun x => [nv x]) (a.getD i 0) (fun _ => rfl) 1) ?_ (by omega) ?_
        · simp only [List.length_take, List.length_singleton]; omega
        intro v' h' ho' hb' _
        simp (config := {maxSteps := 2000000, implicitDefEqProofs := false}) only [go_sem, ↓reduceIte, Nat.reduceEqDiff, Nat.reduceAdd, Nat.reduceMul, Nat.reduceLeDiff, Nat.reduceLT, Nat.reduceSub, IntWalk.iteOmega, IntWalk.toNatUp, reduceCtorEq, Int.reduceLE, Int.reduceLT, Int.reduceToNat, Int.reduceNeg, f0, f7, f8, f9, f10, c1, c2, c3]
        refine ⟨⟨(hg.addP hg.size _).trans hb', f0, f8, f9, i + 1, hlt, rfl, .inl ⟨by omega, f7, IO.snoc_at hlt ho'⟩⟩, ?_⟩
        simp only [vi, updo_some, ↓reduceIte, f10]; omega
      · obtain rfl : i = 16 := by omega
        obtain ⟨x, hxx⟩ : ∃ x, x = a.getD 16 0 := ⟨_, rfl⟩
        have em : ((x : Nat) : Int).tmod 4 = ((x % 4 : Nat) : Int) := rfl
        have ed : ((x : Nat) : Int).tdiv 4 = ((x / 4 : Nat) : Int) := rfl
        rw [← hxx] at g1 hx
        have c1 : ¬ ((16 : Nat) : Int) < 16 := by omega
        have c2 : ((16 : Nat) : Int) = 16 := rfl
        rw [c2] at c1 hlt' f10
        simp (config := {maxSteps := 2000000, implicitDefEqProofs := false}) only [go_sem, ↓reduceIte, Nat.reduceEqDiff, Nat.reduceAdd, Nat.reduceMul, Nat.reduceLeDiff, Nat.reduceLT, Nat.reduceSub, IntWalk.iteOmega, IntWalk.toNatUp, reduceCtorEq, Int.reduceLE, Int.reduceLT, Int.reduceToNat, Int.reduceNeg, f0, f8, f9, f10, hlt', c1, g1, em]
        refine append_ts (E := 3) (B := h.size) (n := 1) (bytes := 8) tsl155 Tryd.underlying155 tn3 tz3 rfl tb3 (fun _ => rfl) (ho.push _) (by have := hg.size; simp; omega) (Ts.one (enc := fun x => [nv x]) (x % 4) (fun _ => rfl) 1) ?_ (by omega) ?_
        · simp only [List.length_take, List.length_singleton]; omega
        intro v' g2 ho' hb' _
        have hg2 : Bel h.size h g2 := (hg.addP hg.size _).trans hb'
        obtain ⟨y, hyy⟩ : ∃ y, y = a.getD 17 0 := ⟨_, rfl⟩
        have hy17 : y < 256 := by rw [hyy]; exact w.getD 17
        have em2 : ((y : Nat) : Int).tmod 4 = ((y % 4 : Nat) : Int) := rfl
        have e64 : (256 : Int).tdiv 4 = 64 := rfl
        have e1 : ((y % 4 : Nat) : Int) * 64 = ((y % 4 * 64 : Nat) : Int) := by omega
        have e2 : ((x / 4 : Nat) : Int) + ((y % 4 * 64 : Nat) : Int) = ((x / 4 + y % 4 * 64 : Nat) : Int) := by omega
        have hd : x / 4 + y % 4 * 64 < 256 := by omega
        have hs := CutAt.first hlt hxx hyy
        by_cases hup : 17 < a.length
        · have hup' : (17 : Int) < a.length := by omega
          have g2' : V.hc g2 ⟨bb, oo + 17, none⟩ = some (.int .i64 (y : Nat)) := by rw [hg2.hc (by exact hbb), hyy]; exact hcs 17 hup
          simp (config := {maxSteps := 2000000, implicitDefEqProofs := false}) only [go_sem, ↓reduceIte, Nat.reduceEqDiff, Nat.reduceAdd, Nat.reduceMul, Nat.reduceLeDiff, Nat.reduceLT, Nat.reduceSub, IntWalk.iteOmega, IntWalk.toNatUp, reduceCtorEq, Int.reduceLE, Int.reduceLT, Int.reduceToNat, Int.reduceNeg, f0, f7, f8, f9, f10, hup', g2']
          refine VS.w (g2.size) [] (.q 0 (.q 1 (.q 2 (.q 3 (.q 4 (.q 5 (.q 6 (.q 7 (.q 8 (.q 9 (.q 10 (.s 11 (.s 12 (.q 13 .nil)))))))))))))) mixed (by kernel_rfl) ?_
          simp (config := {maxSteps := 2000000, implicitDefEqProofs := false}) only [go_sem, ↓reduceIte, Nat.reduceEqDiff, Nat.reduceAdd, Nat.reduceMul, Nat.reduceLeDiff, Nat.reduceLT, Nat.reduceSub, IntWalk.iteOmega, IntWalk.toNatUp, reduceCtorEq, Int.reduceLE, Int.reduceLT, Int.reduceToNat, Int.reduceNeg, f0, f7, f8, f9, f10, ed, em2, e64, e1, e2]
          refine append_ts (E := 3) (B := g2.size) (n := 1) (bytes := 8) tsl155 Tryd.underlying155 tn3 tz3 rfl tb3 (fun _ => rfl) (Ots.nil _ _ _ _ _) (by simp) (Ts.one (enc := fun x => [nv x]) (x / 4 + y % 4 * 64) (fun _ => rfl) 1) ?_ (by omega) ?_
          · simp only [List.length_nil, List.length_singleton]; omega
          intro v2 g3 ho3 hb3 _
          simp (config := {maxSteps := 2000000, implicitDefEqProofs := false}) only [go_sem, ↓reduceIte, Nat.reduceEqDiff, Nat.reduceAdd, Nat.reduceMul, Nat.reduceLeDiff, Nat.reduceLT, Nat.reduceSub, IntWalk.iteOmega, IntWalk.toNatUp, reduceCtorEq, Int.reduceLE, Int.reduceLT, Int.reduceToNat, Int.reduceNeg, f0, f7, f8, f9, f10]
          have hb4 : Bel g2.size g2 g3 := (Bel.push (Nat.le_refl _) _).trans hb3
          refine ⟨hb4, ⟨hg2.trans (hb4.mono hg2.size), f0, f8, f9, 17, by omega, rfl, .inr ⟨by omega, g2, [x / 4 + y % 4 * 64], hg2, hb4, ?_, ho3, Dg.one hd, rfl, ?_⟩⟩, ?_⟩
          · rw [← hxx]; exact ho'
          · rw [← hxx]; exact hs
          · simp only [vi, updo_some, ↓reduceIte, f10]; omega
        · have hup' : ¬ (17 : Int) < a.length := by omega
          have hy0 : y = 0 := by rw [hyy]; exact getD_none hup
          subst hy0
          rw [show 0 % 4 * 64 = 0 from rfl, Nat.add_zero] at hs
          have e64' : (0 : Int).tmod 4 = 0 := rfl
          have e0z : (0 : Int) * 64 = 0 := rfl
          have e2' : ((x / 4 : Nat) : Int) + 0 = ((x / 4 : Nat) : Int) := by omega
          simp (config := {maxSteps := 2000000, implicitDefEqProofs := false}) only [go_sem, ↓reduceIte, Nat.reduceEqDiff, Nat.reduceAdd, Nat.reduceMul, Nat.reduceLeDiff, Nat.reduceLT, Nat.reduceSub, IntWalk.iteOmega, IntWalk.toNatUp, reduceCtorEq, Int.reduceLE, Int.reduceLT, Int.reduceToNat, Int.reduceNeg, f0, f7, f8, f9, f10, hup']
          refine VS.w (g2.size) [] (.q 0 (.q 1 (.q 2 (.q 3 (.q 4 (.q 5 (.q 6 (.q 7 (.q 8 (.q 9 (.q 10 (.s 11 (.s 12 (.q 13 .nil)))))))))))))) mixed (by kernel_rfl) ?_
          simp (config := {maxSteps := 2000000, implicitDefEqProofs := false}) only [go_sem, ↓reduceIte, Nat.reduceEqDiff, Nat.reduceAdd, Nat.reduceMul, Nat.reduceLeDiff, Nat.reduceLT, Nat.reduceSub, IntWalk.iteOmega, IntWalk.toNatUp, reduceCtorEq, Int.reduceLE, Int.reduceLT, Int.reduceToNat, Int.reduceNeg, f0, f7, f8, f9, f10, ed, e64', e64, e0z, e2']
          refine append_ts (E := 3) (B := g2.size) (n := 1) (bytes := 8) tsl155 Tryd.underlying155 tn3 tz3 rfl tb3 (fun _ => rfl) (Ots.nil _ _ _ _ _) (by simp) (Ts.one (enc := fun x => [nv x]) (x / 4) (fun _ => rfl) 1) ?_ (by omega) ?_
          · simp only [List.length_nil, List.length_singleton]; omega
          intro v2 g3 ho3 hb3 _
          simp (config := {maxSteps := 2000000, implicitDefEqProofs := false}) only [go_sem, ↓reduceIte, Nat.reduceEqDiff, Nat.reduceAdd, Nat.reduceMul, Nat.reduceLeDiff, Nat.reduceLT, Nat.reduceSub, IntWalk.iteOmega, IntWalk.toNatUp, reduceCtorEq, Int.reduceLE, Int.reduceLT, Int.reduceToNat, Int.reduceNeg, f0, f7, f8, f9, f10]
          have hb4 : Bel g2.size g2 g3 := (Bel.push (Nat.le_refl _) _).trans hb3
          refine ⟨hb4, ⟨hg2.trans (hb4.mono hg2.size), f0, f8, f9, 17, by omega, rfl, .inr ⟨by omega, g2, [x / 4], hg2, hb4, ?_, ho3, Dg.one (by omega), rfl, ?_⟩⟩, ?_⟩
          · rw [← hxx]; exact ho'
          · rw [← hxx]; exact hs
          · simp only [vi, updo_some, ↓reduceIte, f10]; omega
    · have c1 : ¬ (i : Int) < 16 := by omega
      have c2 : ¬ (i : Int) = 16 := by omega
      have c3 : (16 : Int) ≤ i := by omega
      have hs := hv.step (by omega) lhi
      obtain ⟨x, hxx⟩ : ∃ x, x = a.getD i 0 := ⟨_, rfl⟩
      rw [← hxx] at g1 hx hs
      obtain ⟨y, hyy⟩ : ∃ y, y = a.getD (i + 1) 0 := ⟨_, rfl⟩
      rw [← hyy] at hy hs
      have ed : ((x : Nat) : Int).tdiv 4 = ((x / 4 : Nat) : Int) := rfl
      have em2 : ((y : Nat) : Int).tmod 4 = ((y % 4 : Nat) : Int) := rfl
      have e64 : (256 : Int).tdiv 4 = 64 := rfl
      have e1 : ((y % 4 : Nat) : Int) * 64 = ((y % 4 * 64 : Nat) : Int) := by omega
      have e2 : ((x / 4 : Nat) : Int) + ((y % 4 * 64 : Nat) : Int) = ((x / 4 + y % 4 * 64 : Nat) : Int) := by omega
      have hd : x / 4 + y % 4 * 64 < 256 := by omega
      have ei : (i : Int) + 1 = ((i + 1 : Nat) : Int) := rfl
      have hsz := hgh.size
      by_cases hup : i + 1 < a.length
      · have hup' : ((i + 1 : Nat) : Int) < a.length := by omega
        have g2' : V.hc g ⟨bb, oo + (i + 1), none⟩ = some (.int .i64 (y : Nat)) := by rw [hg.hc (by exact hbb), hyy]; exact hcs _ hup
        simp (config := {maxSteps := 2000000, implicitDefEqProofs := false}) only [go_sem, ↓reduceIte, Nat.reduceEqDiff, Nat.reduceAdd, Nat.reduceMul, Nat.reduceLeDiff, Nat.reduceLT, Nat.reduceSub, IntWalk.iteOmega, IntWalk.toNatUp, reduceCtorEq, Int.reduceLE, Int.reduceLT, Int.reduceToNat, Int.reduceNeg, f0, f8, f9, f10, hlt', g1, c1, c2, c3, ei, hup', g2', Int.toNat_natCast]
        refine VS.w (gh.size) [] (.q 0 (.q 1 (.q 2 (.q 3 (.q 4 (.q 5 (.q 6 (.q 7 (.q 8 (.q 9 (.q 10 (.s 11 (.s 12 (.q 13 .nil)))))))))))))) mixed (by kernel_rfl) ?_
        simp (config := {maxSteps := 2000000, implicitDefEqProofs := false}) only [go_sem, ↓reduceIte, Nat.reduceEqDiff, Nat.reduceAdd, Nat.reduceMul, Nat.reduceLeDiff, Nat.reduceLT, Nat.reduceSub, IntWalk.iteOmega, IntWalk.toNatUp, reduceCtorEq, Int.reduceLE, Int.reduceLT, Int.reduceToNat, Int.reduceNeg, f0, f8, f9, f10, ed, em2, e64, e1, e2]
        refine ⟨Bel.push hgg.size _, ?_⟩
        refine append_ts (E := 3) (B := gh.size) (n := 1) (bytes := 8) tsl155 Tryd.underlying155 tn3 tz3 rfl tb3 (fun _ => rfl) (ohi.push _) (by have := hgg.size; simp; omega) (Ts.one (enc := fun x => [nv x]) (x / 4 + y % 4 * 64) (fun _ => rfl) 1) ?_ (by omega) ?_
        · simp only [lhi, List.length_singleton]; omega
        intro v2 g3 ho3 hb3 _
        simp (config := {maxSteps := 2000000, implicitDefEqProofs := false}) only [go_sem, ↓reduceIte, Nat.reduceEqDiff, Nat.reduceAdd, Nat.reduceMul, Nat.reduceLeDiff, Nat.reduceLT, Nat.reduceSub, IntWalk.iteOmega, IntWalk.toNatUp, reduceCtorEq, Int.reduceLE, Int.reduceLT, Int.reduceToNat, Int.reduceNeg, f0, f8, f9, f10]
        have hb4 : Bel gh.size g g3 := (Bel.push hgg.size _).trans hb3
        refine ⟨hb4, ⟨hg.trans (hb4.mono hsz), f0, f8, f9, i + 1, hlt, rfl, .inr ⟨by omega, gh, _, hgh, hgg.trans hb4, olo, ho3, whi.snoc hd, by rw [List.length_append, lhi]; simp; omega, ?_⟩⟩, ?_⟩
        · exact hs
        · simp only [vi, updo_some, ↓reduceIte, f10]; omega
      · have hup' : ¬ ((i + 1 : Nat) : Int) < a.length := by omega
        have hy0 : y = 0 := by rw [hyy]; exact getD_none hup
        subst hy0
        rw [show 0 % 4 * 64 = 0 from rfl, Nat.add_zero] at hs
        have e64' : (0 : Int).tmod 4 = 0 := rfl
        have e0z : (0 : Int) * 64 = 0 := rfl
        have e2' : ((x / 4 : Nat) : Int) + 0 = ((x / 4 : Nat) : Int) := by omega
        simp (config := {maxSteps := 2000000, implicitDefEqProofs := false}) only [go_sem, ↓reduceIte, Nat.reduceEqDiff, Nat.reduceAdd, Nat.reduceMul, Nat.reduceLeDiff, Nat.reduceLT, Nat.reduceSub, IntWalk.iteOmega, IntWalk.toNatUp, reduceCtorEq, Int.reduceLE, Int.reduceLT, Int.reduceToNat, Int.reduceNeg, f0, f8, f9, f10, hlt', g1, c1, c2, c3, ei, hup', Int.toNat_natCast]
        refine VS.w (gh.size) [] (.q 0 (.q 1 (.q 2 (.q 3 (.q 4 (.q 5 (.q 6 (.q 7 (.q 8 (.q 9 (.q 10 (.s 11 (.s 12 (.q 13 .nil)))))))))))))) mixed (by kernel_rfl) ?_
        simp (config := {maxSteps := 2000000, implicitDefEqProofs := false}) only [go_sem, ↓reduceIte, Nat.reduceEqDiff, Nat.reduceAdd, Nat.reduceMul, Nat.reduceLeDiff, Nat.reduceLT, Nat.reduceSub, IntWalk.iteOmega, IntWalk.toNatUp, reduceCtorEq, Int.reduceLE, Int.reduceLT, Int.reduceToNat, Int.reduceNeg, f0, f8, f9, f10, ed, e64', e64, e0z, e2']
        refine ⟨Bel.push hgg.size _, ?_⟩
        refine append_ts (E := 3) (B := gh.size) (n := 1) (bytes := 8) tsl155 Tryd.underlying155 tn3 tz3 rfl tb3 (fun _ => rfl) (ohi.push _) (by have := hgg.size; simp; omega) (Ts.one (enc := fun x => [nv x]) (x / 4) (fun _ => rfl) 1) ?_ (by omega) ?_
        · simp only [lhi, List.length_singleton]; omega
        intro v2 g3 ho3 hb3 _
        simp (config := {maxSteps := 2000000, implicitDefEqProofs := false}) only [go_sem, ↓reduceIte, Nat.reduceEqDiff, Nat.reduceAdd, Nat.reduceMul, Nat.reduceLeDiff, Nat.reduceLT, Nat.reduceSub, IntWalk.iteOmega, IntWalk.toNatUp, reduceCtorEq, Int.reduceLE, Int.reduceLT, Int.reduceToNat, Int.reduceNeg, f0, f8, f9, f10]
        have hb4 : Bel gh.size g g3 := (Bel.push hgg.size _).trans hb3
        refine ⟨hb4, ⟨hg.trans (hb4.mono hsz), f0, f8, f9, i + 1, hlt, rfl, .inr ⟨by omega, gh, _, hgh, hgg.trans hb4, olo, ho3, whi.snoc (by omega), by rw [List.length_append, lhi]; simp; omega, ?_⟩⟩, ?_⟩
        · exact hs
        · simp only [vi, updo_some, ↓reduceIte, f10]; omega
  · have hge : ¬ (i : Int) < a.length := by omega
    obtain rfl : i = a.length := by omega
    rcases hst with ⟨h16, f7, ho⟩ | ⟨h16, gh, hi', hgh, hgg, olo, ohi, whi, lhi, hv⟩
    · rw [List.take_length] at ho
      simp (config := {maxSteps := 2000000, implicitDefEqProofs := false}) only [go_sem, ↓reduceIte, Nat.reduceEqDiff, Nat.reduceAdd, Nat.reduceMul, Nat.reduceLeDiff, Nat.reduceLT, Nat.reduceSub, IntWalk.iteOmega, IntWalk.toNatUp, reduceCtorEq, Int.reduceLE, Int.reduceLT, Int.reduceToNat, Int.reduceNeg, f0, f7, f10, hge]
      have hlv := valD_lt w
      have hp := Nat.pow_le_pow_right (n := 256) (by omega) h16
      rw [H16_eq] at hp
      exact ⟨⟨_, _, a, [], rfl, ho, Ots.nil _ _ _ _ _, w, Dg.nil, by simp only [valD, Nat.mul_zero, Nat.add_zero], lo_lt0 hlv hp, by omega, by simp⟩, hg⟩
    · unfold CutAt at hv
      rw [List.take_length, getD_none (by omega), Nat.zero_mod, Nat.zero_mul, Nat.add_zero] at hv
      simp (config := {maxSteps := 2000000, implicitDefEqProofs := false}) only [go_sem, ↓reduceIte, Nat.reduceEqDiff, Nat.reduceAdd, Nat.reduceMul, Nat.reduceLeDiff, Nat.reduceLT, Nat.reduceSub, IntWalk.iteOmega, IntWalk.toNatUp, reduceCtorEq, Int.reduceLE, Int.reduceLT, Int.reduceToNat, Int.reduceNeg, f0, f10, hge]
      have wl : Dg (a.take 16 ++ [a.getD 16 0 % 4]) := (w.take 16).snoc (by omega)
      have hl16 : (a.take 16).length = 16 := by rw [List.length_take]; omega
      have hlv := valD_lt (w.take 16)
      rw [hl16] at hlv
      refine ⟨⟨_, _, _, _, rfl, olo.bel hgg (Nat.le_refl _), ohi.mono hgh.size, wl, whi, hv, ?_, by rw [List.length_append, hl16]; exact Nat.le_refl _, by omega⟩, hg⟩
      rw [valD_snoc, hl16]
      have hm : a.getD 16 0 % 4 ≤ 3 := by omega
      rw [H16_eq] at hlv ⊢
      exact lo_lt hlv hm
end Go.Proofs.YtnpacofabdgcdaaDoor
namespace Go.Proofs.YtnpacofabdgcdaaDoor
open Go Go.V
set_option linter.unusedSimpArgs false
set_option linter.unusedVariables false
set_option maxRecDepth 100000
def P130 : Nat := 4 * 256 ^ 16 - 5
def vBd : Nat → Nat
  | 0 => 256 ^ 36
  | 1 => 2 ^ 161
  | 2 => 4 * 256 ^ 16 + 2 ^ 34
  | _ => 4 * 256 ^ 16
def lBd : Nat → Nat
  | 0 => 36
  | 1 => 23
  | _ => 18
theorem red_mod {v lo hi : Nat} (hv : v = lo + 4 * H16 * hi) : (lo + hi * 5) % P130 = v % P130 := by
  have e : v = (lo + hi * 5) + P130 * hi := by
    rw [hv]
    unfold P130 H16
    omega
  rw [e, Nat.add_mul_mod_self_left]
theorem red_bound {t v lo hi : Nat} (ht : t < 4) (hv : v = lo + 4 * H16 * hi) (hlo : lo < 4 * H16) (hb : v < vBd t) : lo + hi * 5 < vBd (t + 1) := by
  unfold H16 at *
  rcases t with _ | _ | _ | _ | t
  · simp only [vBd] at *; omega
  · simp only [vBd] at *; omega
  · simp only [vBd] at *; omega
  · simp only [vBd] at *; omega
  · omega
theorem red_len {t n m : Nat} (hn : n ≤ lBd t) (hm : m ≤ n - 16) (k : Nat) (hk : k ≤ 17) : max k (m + 1 + 1) + 1 ≤ lBd (t + 1) := by
  rcases t with _ | _ | t
  · simp only [lBd] at *; omega
  · simp only [lBd] at *; omega
  · simp only [lBd] at *; omega
theorem lBd_le (t : Nat) : lBd t ≤ 36 := by
  rcases t with _ | _ | t
  · decide
  · decide
  · show 18 ≤ 36; decide
theorem red_small {v lo hi : Nat} (hb : v < vBd 4) (hv : lo + 4 * H16 * hi = v + 5) (h0 : hi = 0) (hlo : lo < 4 * H16) : v = v % P130 := by
  rw [Nat.mod_eq_of_lt]
  subst h0
  unfold P130; unfold H16 at *; simp only [vBd] at *; omega
theorem red_big {v lo hi : Nat} (hb : v < vBd 4) (hv : lo + 4 * H16 * hi = v + 5) (h0 : ¬ hi = 0) (hlo : lo < 4 * H16) : lo = v % P130 := by
  have h1 : hi = 1 := by unfold H16 at *; simp only [vBd] at *; omega
  subst h1
  have e : v = lo + P130 * 1 := by unfold P130; unfold H16 at *; omega
  rw [e, Nat.add_mul_mod_self_left, Nat.mod_eq_of_lt]
  unfold P130; unfold H16 at *; simp only [vBd] at *; omega
theorem vBd_zero {l : List Nat} (w : Dg l) (hl : l.length ≤ 36) : valD l < vBd 0 := Nat.lt_of_lt_of_le (valD_lt w) (Nat.pow_le_pow_right (by omega) hl)
theorem valD_five : valD [5] = 5 := rfl
set_option maxHeartbeats 1000000 in
theorem reduced_ok (T : World) (h : Hp) (v : Value) (a : List Nat) (s : IT h v a) (w : Dg a) (hl : a.length ≤ 36) :
    CallsH Tryd.prog T 229 #[v, .int .i64 130, .int .i64 5] h fun v' h' => (∃ o, IO h.size h' v' o ∧ Dg o ∧ valD o = valD a % P130 ∧ o.length ≤ 18) ∧ Bel h.size h h' := by
  refine CallsH.of_code' (args := [_, _, _]) Tryd.func229 rfl rfl rfl rfl ?_
  simp (config := {maxSteps := 2000000, implicitDefEqProofs := false}) only [go_sem, ↓reduceIte, Nat.reduceEqDiff, Nat.reduceAdd, Nat.reduceMul, Nat.reduceLeDiff, Nat.reduceLT, Nat.reduceSub, IntWalk.iteOmega, IntWalk.toNatUp, reduceCtorEq, Int.reduceLE, Int.reduceLT, Int.reduceToNat, Int.reduceNeg]
  refine VS.loop' (fun F g => Bel h.size h g ∧ F 1 = .int .i64 130 ∧ F 2 = .int .i64 5 ∧ ∃ (t : Nat) (a' : List Nat), t ≤ 4 ∧ F 7 = .int .i64 t ∧ IT g (F 0) a' ∧ (0 < t → IO h.size g (F 0) a') ∧ Dg a' ∧ valD a' % P130 = valD a % P130 ∧ valD a' < vBd t ∧ a'.length ≤ lBd t)
    (fun F _ => 4 - (vi (F 7)).toNat) rfl ⟨Bel.refl _ _, rfl, rfl, 0, a, by omega, rfl, s, fun h => (Nat.lt_irrefl _ h).elim, w, rfl, vBd_zero w hl, hl⟩ ?_
  rintro F g ⟨hg, f1, f2, t, a', ht, f7, sa, oa, wa, hmod, hbd, hlen⟩
  have hl36 := lBd_le t
  by_cases hlt : t < 4
  · have hlt' : (t : Int) < 4 := by omega
    simp (config := {maxSteps := 2000000, implicitDefEqProofs := false}) only [go_sem, ↓reduceIte, Nat.reduceEqDiff, Nat.reduceAdd, Nat.reduceMul, Nat.reduceLeDiff, Nat.reduceLT, Nat.reduceSub, IntWalk.iteOmega, IntWalk.toNatUp, reduceCtorEq, Int.reduceLE, Int.reduceLT, Int.reduceToNat, Int.reduceNeg, f1, f2, f7, hlt']
    refine (cutDigits_ok T _ _ a' sa wa (by omega)).use ?_
    rintro _ g1 ⟨⟨v1, v2, lo, hi, rfl, o1, o2, w1, w2, hval, hlo, ll, lh⟩, b1⟩
    simp (config := {maxSteps := 2000000, implicitDefEqProofs := false}) only [go_sem, ↓reduceIte, Nat.reduceEqDiff, Nat.reduceAdd, Nat.reduceMul, Nat.reduceLeDiff, Nat.reduceLT, Nat.reduceSub, IntWalk.iteOmega, IntWalk.toNatUp, reduceCtorEq, Int.reduceLE, Int.reduceLT, Int.reduceToNat, Int.reduceNeg, f1, f2, f7]
    have s5 : IT (g1.push (.cells #[.int .i64 5] 3)) (.slice (some ⟨g1.size, 0, none⟩) 1 1) [5] := Ts.one (enc := fun x => [nv x]) 5 (fun _ => rfl) 1
    refine (timesDigits_ok T _ _ _ hi [5] (o2.push _).ts s5 w2 (Dg.one (by decide)) (by simp only [List.length_singleton]; omega)).use ?_
    rintro v3 g2 ⟨⟨m, o3, w3, hvm, hlm⟩, b2⟩
    have b2' : Bel g1.size g1 g2 := (Bel.push (Nat.le_refl _) _).trans (b2.mono (by simp))
    have o1' := o1.bel b2' (Nat.le_refl _)
    simp (config := {maxSteps := 2000000, implicitDefEqProofs := false}) only [go_sem, ↓reduceIte, Nat.reduceEqDiff, Nat.reduceAdd, Nat.reduceMul, Nat.reduceLeDiff, Nat.reduceLT, Nat.reduceSub, IntWalk.iteOmega, IntWalk.toNatUp, reduceCtorEq, Int.reduceLE, Int.reduceLT, Int.reduceToNat, Int.reduceNeg, f1, f2, f7]
    refine (addedDigits_ok T _ _ _ lo m o1'.ts o3.ts w1 w3 (by rw [hlm]; simp only [List.length_singleton]; omega)).use ?_
    rintro v4 g3 ⟨⟨n, o4, w4, hvn, hln⟩, b3⟩
    simp (config := {maxSteps := 2000000, implicitDefEqProofs := false}) only [go_sem, ↓reduceIte, Nat.reduceEqDiff, Nat.reduceAdd, Nat.reduceMul, Nat.reduceLeDiff, Nat.reduceLT, Nat.reduceSub, IntWalk.iteOmega, IntWalk.toNatUp, reduceCtorEq, Int.reduceLE, Int.reduceLT, Int.reduceToNat, Int.reduceNeg, f1, f2, f7]
    have hs1 := b1.size
    have hs2 := b2'.size
    have hs3 := b3.size
    have hs0 := hg.size
    have bb : Bel g.size g g3 := (b1.trans (b2'.mono hs1)).trans (b3.mono (by omega))
    rw [hvm, valD_five] at hvn
    rw [hlm, List.length_singleton] at hln
    have o4' : IO h.size g3 v4 n := o4.mono (by omega)
    refine ⟨⟨hg.trans (bb.mono hs0), f1, f2, t + 1, n, hlt, rfl, o4.ts, fun _ => o4', w4, ?_, ?_, ?_⟩, ?_⟩
    · rw [hvn, red_mod hval, hmod]
    · rw [hvn]; exact red_bound hlt hval hlo hbd
    · exact Nat.le_trans hln (red_len hlen lh lo.length ll)
    · simp only [vi, updo_some, ↓reduceIte, f7]; omega
  · have hge : ¬ (t : Int) < 4 := by omega
    obtain rfl : t = 4 := by omega
    have c4 : ((4 : Nat) : Int) = 4 := rfl
    rw [c4] at f7 hge
    have oa := oa (by decide)
    simp (config := {maxSteps := 2000000, implicitDefEqProofs := false}) only [go_sem, ↓reduceIte, Nat.reduceEqDiff, Nat.reduceAdd, Nat.reduceMul, Nat.reduceLeDiff, Nat.reduceLT, Nat.reduceSub, IntWalk.iteOmega, IntWalk.toNatUp, reduceCtorEq, Int.reduceLE, Int.reduceLT, Int.reduceToNat, Int.reduceNeg, f1, f2, f7, hge]
    have s5 : IT (g.push (.cells #[.int .i64 5] 3)) (.slice (some ⟨g.size, 0, none⟩) 1 1) [5] := Ts.one (enc := fun x => [nv x]) 5 (fun _ => rfl) 1
    refine (addedDigits_ok T _ _ _ a' [5] (oa.push _).ts s5 wa (Dg.one (by decide)) (by simp only [List.length_singleton]; omega)).use ?_
    rintro v1 g1 ⟨⟨u, o1, w1, hvu, hlu⟩, b1⟩
    have b1' : Bel g.size g g1 := (Bel.push (Nat.le_refl _) _).trans (b1.mono (by simp))
    have oa1 := oa.bel b1' (Nat.le_refl _)
    simp (config := {maxSteps := 2000000, implicitDefEqProofs := false}) only [go_sem, ↓reduceIte, Nat.reduceEqDiff, Nat.reduceAdd, Nat.reduceMul, Nat.reduceLeDiff, Nat.reduceLT, Nat.reduceSub, IntWalk.iteOmega, IntWalk.toNatUp, reduceCtorEq, Int.reduceLE, Int.reduceLT, Int.reduceToNat, Int.reduceNeg, f1, f2]
    refine (cutDigits_ok T _ _ u o1.ts w1 (by simp only [List.length_singleton] at hlu; omega)).use ?_
    rintro _ g2 ⟨⟨v2, v3, lo, hi, rfl, o2, o3, w2, w3, hval, hlo, ll, lh⟩, b2⟩
    have oa2 := oa1.bel b2 (Nat.le_refl _)
    rw [valD_five] at hvu
    rw [hvu] at hval
    have hs1 := b1'.size
    have hs2 := b2.size
    have hs0 := hg.size
    have bb : Bel g.size g g2 := b1'.trans (b2.mono hs1)
    simp (config := {maxSteps := 2000000, implicitDefEqProofs := false}) only [go_sem, ↓reduceIte, Nat.reduceEqDiff, Nat.reduceAdd, Nat.reduceMul, Nat.reduceLeDiff, Nat.reduceLT, Nat.reduceSub, IntWalk.iteOmega, IntWalk.toNatUp, reduceCtorEq, Int.reduceLE, Int.reduceLT, Int.reduceToNat, Int.reduceNeg, f1, f2]
    refine (noDigits_ok T _ _ hi o3.ts (by simp only [List.length_singleton] at hlu; omega)).pure ?_
    by_cases h0 : valD hi = 0
    · have hd : decide (valD hi = 0) = true := decide_eq_true h0
      simp (config := {maxSteps := 2000000, implicitDefEqProofs := false}) only [go_sem, ↓reduceIte, Nat.reduceEqDiff, Nat.reduceAdd, Nat.reduceMul, Nat.reduceLeDiff, Nat.reduceLT, Nat.reduceSub, IntWalk.iteOmega, IntWalk.toNatUp, reduceCtorEq, Int.reduceLE, Int.reduceLT, Int.reduceToNat, Int.reduceNeg, hd]
      exact ⟨⟨a', oa2, wa, (red_small hbd hval.symm h0 hlo).trans hmod, hlen⟩, hg.trans (bb.mono hs0)⟩
    · have hd : decide (valD hi = 0) = false := decide_eq_false h0
      simp (config := {maxSteps := 2000000, implicitDefEqProofs := false}) only [go_sem, ↓reduceIte, Nat.reduceEqDiff, Nat.reduceAdd, Nat.reduceMul, Nat.reduceLeDiff, Nat.reduceLT, Nat.reduceSub, IntWalk.iteOmega, IntWalk.toNatUp, reduceCtorEq, Int.reduceLE, Int.reduceLT, Int.reduceToNat, Int.reduceNeg, hd]
      exact ⟨⟨lo, o2.mono (by omega), w2, (red_big hbd hval.symm h0 hlo).trans hmod, by omega⟩, hg.trans (bb.mono hs0)⟩
end Go.Proofs.YtnpacofabdgcdaaDoor
