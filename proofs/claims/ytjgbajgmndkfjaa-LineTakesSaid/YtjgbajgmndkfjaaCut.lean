/- The reference's cut of a number at a bit, and what is left of it modulo 2^130 - 5; no condition but those in the statements. -/
import Derived.Test.YtjgbajgmndkfjaaTim
namespace Go.Proofs.Ytjgbajgmndkfjaa
open Go Go.V
set_option linter.unusedSimpArgs false
set_option linter.unusedVariables false
set_option maxRecDepth 100000
def H16 : Nat := 256 ^ 16
theorem Dg.take {l : List Nat} (w : Dg l) (i : Nat) : Dg (l.take i) := fun x hx => w x (List.mem_of_mem_take hx)
theorem cut_step {a hi : List Nat} {i lo : Nat} (h16 : 16 ≤ i) (hl : hi.length = i - 16) (hv : valD (a.take i) + a.getD i 0 % 4 * 256 ^ i = lo + 4 * H16 * valD hi) :
    valD (a.take (i + 1)) + a.getD (i + 1) 0 % 4 * 256 ^ (i + 1) = lo + 4 * H16 * valD (hi ++ [a.getD i 0 / 4 + a.getD (i + 1) 0 % 4 * 64]) := by
  rw [valD_snoc, valD_take, hl]
  generalize a.getD i 0 = x at *
  generalize a.getD (i + 1) 0 = y at *
  generalize valD (a.take i) = A at *
  generalize valD hi = V at *
  obtain ⟨j, rfl⟩ : ∃ j, i = j + 16 := ⟨i - 16, by omega⟩
  have p2 : 256 ^ (j + 16) = 256 ^ j * 256 ^ 16 := Nat.pow_add _ _ _
  have p1 : 256 ^ (j + 16 + 1) = 256 ^ (j + 16) * 256 := Nat.pow_succ _ _
  rw [Nat.add_sub_cancel, p1, p2]
  rw [p2] at hv
  clear p1 p2
  unfold H16 at *
  generalize 256 ^ j = P at *
  generalize 256 ^ 16 = Q at *
  have e0 : P * Q = Q * P := Nat.mul_comm _ _
  rw [e0]
  rw [e0] at hv
  clear e0
  have e1 : 4 * Q * (V + (x / 4 + y % 4 * 64) * P) = 4 * Q * V + (x / 4 * 4 + y % 4 * 256) * (Q * P) := by
    rw [Nat.mul_add]
    congr 1
    rw [show 4 * Q * ((x / 4 + y % 4 * 64) * P) = (4 * (x / 4 + y % 4 * 64)) * (Q * P) by ac_rfl]
    congr 1; omega
  rw [e1]
  generalize Q * P = R at *
  have e2 : x * R = x / 4 * 4 * R + x % 4 * R := by rw [← Nat.add_mul]; congr 1; omega
  have e3 : y % 4 * (R * 256) = y % 4 * 256 * R := by ac_rfl
  rw [e2, e3, Nat.add_mul]
  omega
def CutAt (a lo hi : List Nat) (i : Nat) : Prop := valD (a.take i) + a.getD i 0 % 4 * 256 ^ i = valD lo + 4 * H16 * valD hi
theorem CutAt.step {a lo hi : List Nat} {i : Nat} (h16 : 16 ≤ i) (hl : hi.length = i - 16) (hv : CutAt a lo hi i) : CutAt a lo (hi ++ [a.getD i 0 / 4 + a.getD (i + 1) 0 % 4 * 64]) (i + 1) := cut_step h16 hl hv
theorem CutAt.start {a : List Nat} {i : Nat} (hi : i = 16) (h : 16 < a.length) : CutAt a (a.take 16 ++ [a.getD i 0 % 4]) [] i := by
  unfold CutAt
  rw [valD_snoc, List.length_take, Nat.min_eq_left (by omega), ← hi]
  simp only [valD, Nat.mul_zero, Nat.add_zero]
theorem CutAt.first {a : List Nat} {x y : Nat} (h : 16 < a.length) (hx : x = a.getD 16 0) (hy : y = a.getD 17 0) : CutAt a (a.take 16 ++ [x % 4]) [x / 4 + y % 4 * 64] 17 := by
  have := (CutAt.start rfl h).step (Nat.le_refl 16) rfl
  rw [← hx, ← hy] at this
  exact this
theorem lo_lt {A m Q : Nat} (h : A < Q) (hm : m ≤ 3) : A + m * Q < 4 * Q := by
  have := Nat.mul_le_mul_right Q hm
  omega
theorem lo_lt0 {A B Q : Nat} (h : A < B) (h2 : B ≤ Q) : A < 4 * Q := by omega
theorem H16_eq : 256 ^ 16 = H16 := rfl
theorem IO.snoc_at {B : Nat} {h : Hp} {v : Value} {l : List Nat} {i : Nat} (hi : i < l.length) (s : IO B h v (l.take i ++ [l.getD i 0])) : IO B h v (l.take (i + 1)) := by
  rw [take_snoc _ i hi]
  have e : l.getD i 0 = l[i] := by rw [List.getD_eq_getElem?_getD, List.getElem?_eq_getElem hi]; rfl
  rw [← e]; exact s
set_option maxHeartbeats 1000000 in
theorem cutDigits_ok (T : World) (h : Hp) (v : Value) (a : List Nat) (s : IT h v a) (w : Dg a) (hl : a.length ≤ 1000000) :
    CallsH Try.prog T 172 #[v, .int .i64 130] h fun v' h' => (∃ v1 v2 lo hi, v' = .tuple #[v1, v2] ∧ IO h.size h' v1 lo ∧ IO h.size h' v2 hi ∧ Dg lo ∧ Dg hi ∧ valD a = valD lo + 4 * H16 * valD hi ∧ valD lo < 4 * H16 ∧ lo.length ≤ 17 ∧ hi.length ≤ a.length - 16) ∧ Bel h.size h h' := by
  obtain ⟨p, cp, rfl, hcs⟩ := nv_open s
  refine CallsH.of_code' (args := [_, _]) Try.func172 rfl rfl rfl rfl ?_
  have t1 : (130 : Int).tdiv 8 = 16 := rfl
  have t2 : (130 : Int).tmod 8 = ((2 : Nat) : Int) := rfl
  simp (config := {maxSteps := 2000000, implicitDefEqProofs := false}) only [go_sem, ↓reduceIte, Nat.reduceEqDiff, Nat.reduceAdd, Nat.reduceMul, Nat.reduceLeDiff, Nat.reduceLT, Nat.reduceSub, IntWalk.iteOmega, IntWalk.toNatUp, reduceCtorEq, false_and, and_false, false_or, or_false, true_or, or_true, not_true_eq_false, not_false_eq_true, Bool.not_true, Bool.not_false, Bool.and_true, Bool.true_and, Bool.and_false, Bool.false_and, Bool.not_eq_true, beq_self_eq_true, Nat.add_zero, Int.reduceLE, Int.reduceLT, Int.reduceToNat, Int.reduceNeg, t1, t2]
  refine (power_ok T h 2 (by omega)).pure ?_
  have t3 : ((2 ^ 2 : Nat) : Int) = 4 := rfl
  simp (config := {maxSteps := 2000000, implicitDefEqProofs := false}) only [go_sem, ↓reduceIte, Nat.reduceEqDiff, Nat.reduceAdd, Nat.reduceMul, Nat.reduceLeDiff, Nat.reduceLT, Nat.reduceSub, IntWalk.iteOmega, IntWalk.toNatUp, reduceCtorEq, false_and, and_false, false_or, or_false, true_or, or_true, not_true_eq_false, not_false_eq_true, Bool.not_true, Bool.not_false, Bool.and_true, Bool.true_and, Bool.and_false, Bool.false_and, Bool.not_eq_true, beq_self_eq_true, Nat.add_zero, Int.reduceLE, Int.reduceLT, Int.reduceToNat, Int.reduceNeg, t3]
  refine VS.loop' (fun F g => Bel h.size h g ∧ F 0 = .slice p a.length cp ∧ F 8 = .int .i64 16 ∧ F 9 = .int .i64 4 ∧ ∃ i : Nat, i ≤ a.length ∧ F 10 = .int .i64 i ∧
      ((i ≤ 16 ∧ F 7 = .slice none 0 0 ∧ IO h.size g (F 6) (a.take i)) ∨ (16 < i ∧ ∃ (gh : Hp) (hi : List Nat), Bel h.size h gh ∧ Bel gh.size gh g ∧ IO h.size gh (F 6) (a.take 16 ++ [a.getD 16 0 % 4]) ∧ IO gh.size g (F 7) hi ∧ Dg hi ∧ hi.length = i - 16 ∧ CutAt a (a.take 16 ++ [a.getD 16 0 % 4]) hi i)))
    (fun F _ => a.length - (vi (F 10)).toNat) rfl ⟨Bel.refl _ _, rfl, rfl, rfl, 0, by omega, rfl, .inl ⟨by omega, rfl, Ots.nil _ _ _ _ _⟩⟩ ?_
  rintro F g ⟨hg, f0, f8, f9, i, hi, f10, hst⟩
  by_cases hlt : i < a.length
  · have hlt' : (i : Int) < a.length := by omega
    obtain ⟨bb, oo, rfl, hbb, hcs⟩ := hcs (by intro e; subst e; simp at hlt)
    have g1 : V.hc g ⟨bb, oo + i, none⟩ = some (.int .i64 (a.getD i 0 : Nat)) := by rw [hg.hc (by exact hbb)]; exact hcs i hlt
    have hx := w.getD i
    have hy := w.getD (i + 1)
    rcases hst with ⟨h16, f7, ho⟩ | ⟨h16, gh, hi', hgh, hgg, olo, ohi, whi, lhi, hv⟩
    · by_cases hlo : i < 16
      · have c1 : (i : Int) < 16 := by omega
        have c2 : ¬ (i : Int) = 16 := by omega
        have c3 : ¬ (16 : Int) ≤ i := by omega
        simp (config := {maxSteps := 2000000, implicitDefEqProofs := false}) only [go_sem, ↓reduceIte, Nat.reduceEqDiff, Nat.reduceAdd, Nat.reduceMul, Nat.reduceLeDiff, Nat.reduceLT, Nat.reduceSub, IntWalk.iteOmega, IntWalk.toNatUp, reduceCtorEq, false_and, and_false, false_or, or_false, true_or, or_true, not_true_eq_false, not_false_eq_true, Bool.not_true, Bool.not_false, Bool.and_true, Bool.true_and, Bool.and_false, Bool.false_and, Bool.not_eq_true, beq_self_eq_true, Nat.add_zero, Int.reduceLE, Int.reduceLT, Int.reduceToNat, Int.reduceNeg, f0, f8, f9, f10, hlt', g1, c1, c2, c3]
        refine append_ts (E := 3) (B := h.size) (n := 1) (bytes := 8) tsl24 Try.underlying24 tn3 tz3 rfl tb3 (fun _ => rfl) (ho.push _) (by have := hg.size; simp; omega) (Ts.one (enc := fun x => [nv x]) (a.getD i 0) (fun _ => rfl) 1) ?_ (by omega) ?_
        · simp only [List.length_take, List.length_singleton]; omega
        intro v' h' ho' hb' _
        simp (config := {maxSteps := 2000000, implicitDefEqProofs := false}) only [go_sem, ↓reduceIte, Nat.reduceEqDiff, Nat.reduceAdd, Nat.reduceMul, Nat.reduceLeDiff, Nat.reduceLT, Nat.reduceSub, IntWalk.iteOmega, IntWalk.toNatUp, reduceCtorEq, false_and, and_false, false_or, or_false, true_or, or_true, not_true_eq_false, not_false_eq_true, Bool.not_true, Bool.not_false, Bool.and_true, Bool.true_and, Bool.and_false, Bool.false_and, Bool.not_eq_true, beq_self_eq_true, Nat.add_zero, Int.reduceLE, Int.reduceLT, Int.reduceToNat, Int.reduceNeg, f0, f7, f8, f9, f10, c1, c2, c3]
        refine ⟨⟨(hg.addP hg.size _).trans hb', f0, f8, f9, i + 1, hlt, rfl, .inl ⟨by omega, f7, IO.snoc_at hlt ho'⟩⟩, ?_⟩
        simp only [vi, updo_some, ↓reduceIte, f10]; omega
      · obtain rfl : i = 16 := by omega
        obtain ⟨x, hxx⟩ : ∃ x, x = a.getD 16 0 := ⟨_, rfl⟩
        have em : ((x : Nat) : Int).tmod 4 = ((x % 4 : Nat) : Int) := rfl
        have ed : ((x : Nat) : Int).tdiv 4 = ((x / 4 : Nat) : Int) := rfl
        rw [← hxx] at g1 hx
        have c1 : ¬ ((16 : Nat) : Int) < 16 := by omega
        have c2 : ((16 : Nat) : Int) = 16 := rfl
        rw [c2] at c1 hlt' f10
        simp (config := {maxSteps := 2000000, implicitDefEqProofs := false}) only [go_sem, ↓reduceIte, Nat.reduceEqDiff, Nat.reduceAdd, Nat.reduceMul, Nat.reduceLeDiff, Nat.reduceLT, Nat.reduceSub, IntWalk.iteOmega, IntWalk.toNatUp, reduceCtorEq, false_and, and_false, false_or, or_false, true_or, or_true, not_true_eq_false, not_false_eq_true, Bool.not_true, Bool.not_false, Bool.and_true, Bool.true_and, Bool.and_false, Bool.false_and, Bool.not_eq_true, beq_self_eq_true, Nat.add_zero, Int.reduceLE, Int.reduceLT, Int.reduceToNat, Int.reduceNeg, f0, f8, f9, f10, hlt', c1, g1, em]
        refine append_ts (E := 3) (B := h.size) (n := 1) (bytes := 8) tsl24 Try.underlying24 tn3 tz3 rfl tb3 (fun _ => rfl) (ho.push _) (by have := hg.size; simp; omega) (Ts.one (enc := fun x => [nv x]) (x % 4) (fun _ => rfl) 1) ?_ (by omega) ?_
        · simp only [List.length_take, List.length_singleton]; omega
        intro v' g2 ho' hb' _
        have hg2 : Bel h.size h g2 := (hg.addP hg.size _).trans hb'
        obtain ⟨y, hyy⟩ : ∃ y, y = a.getD 17 0 := ⟨_, rfl⟩
        have hy17 : y < 256 := by rw [hyy]; exact w.getD 17
        have em2 : ((y : Nat) : Int).tmod 4 = ((y % 4 : Nat) : Int) := rfl
        have e64 : (256 : Int).tdiv 4 = 64 := rfl
        have e1 : ((y % 4 : Nat) : Int) * 64 = ((y % 4 * 64 : Nat) : Int) := by omega
        have e2 : ((x / 4 : Nat) : Int) + ((y % 4 * 64 : Nat) : Int) = ((x / 4 + y % 4 * 64 : Nat) : Int) := by omega
        have hd : x / 4 + y % 4 * 64 < 256 := by omega
        have hs := CutAt.first hlt hxx hyy
        by_cases hup : 17 < a.length
        · have hup' : (17 : Int) < a.length := by omega
          have g2' : V.hc g2 ⟨bb, oo + 17, none⟩ = some (.int .i64 (y : Nat)) := by rw [hg2.hc (by exact hbb), hyy]; exact hcs 17 hup
          simp (config := {maxSteps := 2000000, implicitDefEqProofs := false}) only [go_sem, ↓reduceIte, Nat.reduceEqDiff, Nat.reduceAdd, Nat.reduceMul, Nat.reduceLeDiff, Nat.reduceLT, Nat.reduceSub, IntWalk.iteOmega, IntWalk.toNatUp, reduceCtorEq, false_and, and_false, false_or, or_false, true_or, or_true, not_true_eq_false, not_false_eq_true, Bool.not_true, Bool.not_false, Bool.and_true, Bool.true_and, Bool.and_false, Bool.false_and, Bool.not_eq_true, beq_self_eq_true, Nat.add_zero, Int.reduceLE, Int.reduceLT, Int.reduceToNat, Int.reduceNeg, f0, f7, f8, f9, f10, hup', g2']
          refine VS.w (g2.size) [] (.q 0 (.q 1 (.q 2 (.q 3 (.q 4 (.q 5 (.q 6 (.q 7 (.q 8 (.q 9 (.q 10 (.s 11 (.s 12 (.q 13 .nil)))))))))))))) mixed (by kernel_rfl) ?_
          simp (config := {maxSteps := 2000000, implicitDefEqProofs := false}) only [go_sem, ↓reduceIte, Nat.reduceEqDiff, Nat.reduceAdd, Nat.reduceMul, Nat.reduceLeDiff, Nat.reduceLT, Nat.reduceSub, IntWalk.iteOmega, IntWalk.toNatUp, reduceCtorEq, false_and, and_false, false_or, or_false, true_or, or_true, not_true_eq_false, not_false_eq_true, Bool.not_true, Bool.not_false, Bool.and_true, Bool.true_and, Bool.and_false, Bool.false_and, Bool.not_eq_true, beq_self_eq_true, Nat.add_zero, Int.reduceLE, Int.reduceLT, Int.reduceToNat, Int.reduceNeg, f0, f7, f8, f9, f10, ed, em2, e64, e1, e2]
          refine append_ts (E := 3) (B := g2.size) (n := 1) (bytes := 8) tsl24 Try.underlying24 tn3 tz3 rfl tb3 (fun _ => rfl) (Ots.nil _ _ _ _ _) (by simp) (Ts.one (enc := fun x => [nv x]) (x / 4 + y % 4 * 64) (fun _ => rfl) 1) ?_ (by omega) ?_
          · simp only [List.length_nil, List.length_singleton]; omega
          intro v2 g3 ho3 hb3 _
          simp (config := {maxSteps := 2000000, implicitDefEqProofs := false}) only [go_sem, ↓reduceIte, Nat.reduceEqDiff, Nat.reduceAdd, Nat.reduceMul, Nat.reduceLeDiff, Nat.reduceLT, Nat.reduceSub, IntWalk.iteOmega, IntWalk.toNatUp, reduceCtorEq, false_and, and_false, false_or, or_false, true_or, or_true, not_true_eq_false, not_false_eq_true, Bool.not_true, Bool.not_false, Bool.and_true, Bool.true_and, Bool.and_false, Bool.false_and, Bool.not_eq_true, beq_self_eq_true, Nat.add_zero, Int.reduceLE, Int.reduceLT, Int.reduceToNat, Int.reduceNeg, f0, f7, f8, f9, f10]
          have hb4 : Bel g2.size g2 g3 := (Bel.push (Nat.le_refl _) _).trans hb3
          refine ⟨hb4, ⟨hg2.trans (hb4.mono hg2.size), f0, f8, f9, 17, by omega, rfl, .inr ⟨by omega, g2, [x / 4 + y % 4 * 64], hg2, hb4, ?_, ho3, Dg.one hd, rfl, ?_⟩⟩, ?_⟩
          · rw [← hxx]; exact ho'
          · rw [← hxx]; exact hs
          · simp only [vi, updo_some, ↓reduceIte, f10]; omega
        · have hup' : ¬ (17 : Int) < a.length := by omega
          have hy0 : y = 0 := by rw [hyy]; exact getD_none hup
          subst hy0
          rw [show 0 % 4 * 64 = 0 from rfl, Nat.add_zero] at hs
          have e64' : (0 : Int).tmod 4 = 0 := rfl
          have e0z : (0 : Int) * 64 = 0 := rfl
          have e2' : ((x / 4 : Nat) : Int) + 0 = ((x / 4 : Nat) : Int) := by omega
          simp (config := {maxSteps := 2000000, implicitDefEqProofs := false}) only [go_sem, ↓reduceIte, Nat.reduceEqDiff, Nat.reduceAdd, Nat.reduceMul, Nat.reduceLeDiff, Nat.reduceLT, Nat.reduceSub, IntWalk.iteOmega, IntWalk.toNatUp, reduceCtorEq, false_and, and_false, false_or, or_false, true_or, or_true, not_true_eq_false, not_false_eq_true, Bool.not_true, Bool.not_false, Bool.and_true, Bool.true_and, Bool.and_false, Bool.false_and, Bool.not_eq_true, beq_self_eq_true, Nat.add_zero, Int.reduceLE, Int.reduceLT, Int.reduceToNat, Int.reduceNeg, f0, f7, f8, f9, f10, hup']
          refine VS.w (g2.size) [] (.q 0 (.q 1 (.q 2 (.q 3 (.q 4 (.q 5 (.q 6 (.q 7 (.q 8 (.q 9 (.q 10 (.s 11 (.s 12 (.q 13 .nil)))))))))))))) mixed (by kernel_rfl) ?_
          simp (config := {maxSteps := 2000000, implicitDefEqProofs := false}) only [go_sem, ↓reduceIte, Nat.reduceEqDiff, Nat.reduceAdd, Nat.reduceMul, Nat.reduceLeDiff, Nat.reduceLT, Nat.reduceSub, IntWalk.iteOmega, IntWalk.toNatUp, reduceCtorEq, false_and, and_false, false_or, or_false, true_or, or_true, not_true_eq_false, not_false_eq_true, Bool.not_true, Bool.not_false, Bool.and_true, Bool.true_and, Bool.and_false, Bool.false_and, Bool.not_eq_true, beq_self_eq_true, Nat.add_zero, Int.reduceLE, Int.reduceLT, Int.reduceToNat, Int.reduceNeg, f0, f7, f8, f9, f10, ed, e64', e64, e0z, e2']
          refine append_ts (E := 3) (B := g2.size) (n := 1) (bytes := 8) tsl24 Try.underlying24 tn3 tz3 rfl tb3 (fun _ => rfl) (Ots.nil _ _ _ _ _) (by simp) (Ts.one (enc := fun x => [nv x]) (x / 4) (fun _ => rfl) 1) ?_ (by omega) ?_
          · simp only [List.length_nil, List.length_singleton]; omega
          intro v2 g3 ho3 hb3 _
          simp (config := {maxSteps := 2000000, implicitDefEqProofs := false}) only [go_sem, ↓reduceIte, Nat.reduceEqDiff, Nat.reduceAdd, Nat.reduceMul, Nat.reduceLeDiff, Nat.reduceLT, Nat.reduceSub, IntWalk.iteOmega, IntWalk.toNatUp, reduceCtorEq, false_and, and_false, false_or, or_false, true_or, or_true, not_true_eq_false, not_false_eq_true, Bool.not_true, Bool.not_false, Bool.and_true, Bool.true_and, Bool.and_false, Bool.false_and, Bool.not_eq_true, beq_self_eq_true, Nat.add_zero, Int.reduceLE, Int.reduceLT, Int.reduceToNat, Int.reduceNeg, f0, f7, f8, f9, f10]
          have hb4 : Bel g2.size g2 g3 := (Bel.push (Nat.le_refl _) _).trans hb3
          refine ⟨hb4, ⟨hg2.trans (hb4.mono hg2.size), f0, f8, f9, 17, by omega, rfl, .inr ⟨by omega, g2, [x / 4], hg2, hb4, ?_, ho3, Dg.one (by omega), rfl, ?_⟩⟩, ?_⟩
          · rw [← hxx]; exact ho'
          · rw [← hxx]; exact hs
          · simp only [vi, updo_some, ↓reduceIte, f10]; omega
    · have c1 : ¬ (i : Int) < 16 := by omega
      have c2 : ¬ (i : Int) = 16 := by omega
      have c3 : (16 : Int) ≤ i := by omega
      have hs := hv.step (by omega) lhi
      obtain ⟨x, hxx⟩ : ∃ x, x = a.getD i 0 := ⟨_, rfl⟩
      rw [← hxx] at g1 hx hs
      obtain ⟨y, hyy⟩ : ∃ y, y = a.getD (i + 1) 0 := ⟨_, rfl⟩
      rw [← hyy] at hy hs
      have ed : ((x : Nat) : Int).tdiv 4 = ((x / 4 : Nat) : Int) := rfl
      have em2 : ((y : Nat) : Int).tmod 4 = ((y % 4 : Nat) : Int) := rfl
      have e64 : (256 : Int).tdiv 4 = 64 := rfl
      have e1 : ((y % 4 : Nat) : Int) * 64 = ((y % 4 * 64 : Nat) : Int) := by omega
      have e2 : ((x / 4 : Nat) : Int) + ((y % 4 * 64 : Nat) : Int) = ((x / 4 + y % 4 * 64 : Nat) : Int) := by omega
      have hd : x / 4 + y % 4 * 64 < 256 := by omega
      have ei : (i : Int) + 1 = ((i + 1 : Nat) : Int) := rfl
      have hsz := hgh.size
      by_cases hup : i + 1 < a.length
      · have hup' : ((i + 1 : Nat) : Int) < a.length := by omega
        have g2' : V.hc g ⟨bb, oo + (i + 1), none⟩ = some (.int .i64 (y : Nat)) := by rw [hg.hc (by exact hbb), hyy]; exact hcs _ hup
        simp (config := {maxSteps := 2000000, implicitDefEqProofs := false}) only [go_sem, ↓reduceIte, Nat.reduceEqDiff, Nat.reduceAdd, Nat.reduceMul, Nat.reduceLeDiff, Nat.reduceLT, Nat.reduceSub, IntWalk.iteOmega, IntWalk.toNatUp, reduceCtorEq, false_and, and_false, false_or, or_false, true_or, or_true, not_true_eq_false, not_false_eq_true, Bool.not_true, Bool.not_false, Bool.and_true, Bool.true_and, Bool.and_false, Bool.false_and, Bool.not_eq_true, beq_self_eq_true, Nat.add_zero, Int.reduceLE, Int.reduceLT, Int.reduceToNat, Int.reduceNeg, f0, f8, f9, f10, hlt', g1, c1, c2, c3, ei, hup', g2', Int.toNat_natCast]
        refine VS.w (gh.size) [] (.q 0 (.q 1 (.q 2 (.q 3 (.q 4 (.q 5 (.q 6 (.q 7 (.q 8 (.q 9 (.q 10 (.s 11 (.s 12 (.q 13 .nil)))))))))))))) mixed (by kernel_rfl) ?_
        simp (config := {maxSteps := 2000000, implicitDefEqProofs := false}) only [go_sem, ↓reduceIte, Nat.reduceEqDiff, Nat.reduceAdd, Nat.reduceMul, Nat.reduceLeDiff, Nat.reduceLT, Nat.reduceSub, IntWalk.iteOmega, IntWalk.toNatUp, reduceCtorEq, false_and, and_false, false_or, or_false, true_or, or_true, not_true_eq_false, not_false_eq_true, Bool.not_true, Bool.not_false, Bool.and_true, Bool.true_and, Bool.and_false, Bool.false_and, Bool.not_eq_true, beq_self_eq_true, Nat.add_zero, Int.reduceLE, Int.reduceLT, Int.reduceToNat, Int.reduceNeg, f0, f8, f9, f10, ed, em2, e64, e1, e2]
        refine ⟨Bel.push hgg.size _, ?_⟩
        refine append_ts (E := 3) (B := gh.size) (n := 1) (bytes := 8) tsl24 Try.underlying24 tn3 tz3 rfl tb3 (fun _ => rfl) (ohi.push _) (by have := hgg.size; simp; omega) (Ts.one (enc := fun x => [nv x]) (x / 4 + y % 4 * 64) (fun _ => rfl) 1) ?_ (by omega) ?_
        · simp only [lhi, List.length_singleton]; omega
        intro v2 g3 ho3 hb3 _
        simp (config := {maxSteps := 2000000, implicitDefEqProofs := false}) only [go_sem, ↓reduceIte, Nat.reduceEqDiff, Nat.reduceAdd, Nat.reduceMul, Nat.reduceLeDiff, Nat.reduceLT, Nat.reduceSub, IntWalk.iteOmega, IntWalk.toNatUp, reduceCtorEq, false_and, and_false, false_or, or_false, true_or, or_true, not_true_eq_false, not_false_eq_true, Bool.not_true, Bool.not_false, Bool.and_true, Bool.true_and, Bool.and_false, Bool.false_and, Bool.not_eq_true, beq_self_eq_true, Nat.add_zero, Int.reduceLE, Int.reduceLT, Int.reduceToNat, Int.reduceNeg, f0, f8, f9, f10]
        have hb4 : Bel gh.size g g3 := (Bel.push hgg.size _).trans hb3
        refine ⟨hb4, ⟨hg.trans (hb4.mono hsz), f0, f8, f9, i + 1, hlt, rfl, .inr ⟨by omega, gh, _, hgh, hgg.trans hb4, olo, ho3, whi.snoc hd, by rw [List.length_append, lhi]; simp; omega, ?_⟩⟩, ?_⟩
        · exact hs
        · simp only [vi, updo_some, ↓reduceIte, f10]; omega
      · have hup' : ¬ ((i + 1 : Nat) : Int) < a.length := by omega
        have hy0 : y = 0 := by rw [hyy]; exact getD_none hup
        subst hy0
        rw [show 0 % 4 * 64 = 0 from rfl, Nat.add_zero] at hs
        have e64' : (0 : Int).tmod 4 = 0 := rfl
        have e0z : (0 : Int) * 64 = 0 := rfl
        have e2' : ((x / 4 : Nat) : Int) + 0 = ((x / 4 : Nat) : Int) := by omega
        simp (config := {maxSteps := 2000000, implicitDefEqProofs := false}) only [go_sem, ↓reduceIte, Nat.reduceEqDiff, Nat.reduceAdd, Nat.reduceMul, Nat.reduceLeDiff, Nat.reduceLT, Nat.reduceSub, IntWalk.iteOmega, IntWalk.toNatUp, reduceCtorEq, false_and, and_false, false_or, or_false, true_or, or_true, not_true_eq_false, not_false_eq_true, Bool.not_true, Bool.not_false, Bool.and_true, Bool.true_and, Bool.and_false, Bool.false_and, Bool.not_eq_true, beq_self_eq_true, Nat.add_zero, Int.reduceLE, Int.reduceLT, Int.reduceToNat, Int.reduceNeg, f0, f8, f9, f10, hlt', g1, c1, c2, c3, ei, hup', Int.toNat_natCast]
        refine VS.w (gh.size) [] (.q 0 (.q 1 (.q 2 (.q 3 (.q 4 (.q 5 (.q 6 (.q 7 (.q 8 (.q 9 (.q 10 (.s 11 (.s 12 (.q 13 .nil)))))))))))))) mixed (by kernel_rfl) ?_
        simp (config := {maxSteps := 2000000, implicitDefEqProofs := false}) only [go_sem, ↓reduceIte, Nat.reduceEqDiff, Nat.reduceAdd, Nat.reduceMul, Nat.reduceLeDiff, Nat.reduceLT, Nat.reduceSub, IntWalk.iteOmega, IntWalk.toNatUp, reduceCtorEq, false_and, and_false, false_or, or_false, true_or, or_true, not_true_eq_false, not_false_eq_true, Bool.not_true, Bool.not_false, Bool.and_true, Bool.true_and, Bool.and_false, Bool.false_and, Bool.not_eq_true, beq_self_eq_true, Nat.add_zero, Int.reduceLE, Int.reduceLT, Int.reduceToNat, Int.reduceNeg, f0, f8, f9, f10, ed, e64', e64, e0z, e2']
        refine ⟨Bel.push hgg.size _, ?_⟩
        refine append_ts (E := 3) (B := gh.size) (n := 1) (bytes := 8) tsl24 Try.underlying24 tn3 tz3 rfl tb3 (fun _ => rfl) (ohi.push _) (by have := hgg.size; simp; omega) (Ts.one (enc := fun x => [nv x]) (x / 4) (fun _ => rfl) 1) ?_ (by omega) ?_
        · simp only [lhi, List.length_singleton]; omega
        intro v2 g3 ho3 hb3 _
        simp (config := {maxSteps := 2000000, implicitDefEqProofs := false}) only [go_sem, ↓reduceIte, Nat.reduceEqDiff, Nat.reduceAdd, Nat.reduceMul, Nat.reduceLeDiff, Nat.reduceLT, Nat.reduceSub, IntWalk.iteOmega, IntWalk.toNatUp, reduceCtorEq, false_and, and_false, false_or, or_false, true_or, or_true, not_true_eq_false, not_false_eq_true, Bool.not_true, Bool.not_false, Bool.and_true, Bool.true_and, Bool.and_false, Bool.false_and, Bool.not_eq_true, beq_self_eq_true, Nat.add_zero, Int.reduceLE, Int.reduceLT, Int.reduceToNat, Int.reduceNeg, f0, f8, f9, f10]
        have hb4 : Bel gh.size g g3 := (Bel.push hgg.size _).trans hb3
        refine ⟨hb4, ⟨hg.trans (hb4.mono hsz), f0, f8, f9, i + 1, hlt, rfl, .inr ⟨by omega, gh, _, hgh, hgg.trans hb4, olo, ho3, whi.snoc (by omega), by rw [List.length_append, lhi]; simp; omega, ?_⟩⟩, ?_⟩
        · exact hs
        · simp only [vi, updo_some, ↓reduceIte, f10]; omega
  · have hge : ¬ (i : Int) < a.length := by omega
    obtain rfl : i = a.length := by omega
    rcases hst with ⟨h16, f7, ho⟩ | ⟨h16, gh, hi', hgh, hgg, olo, ohi, whi, lhi, hv⟩
    · rw [List.take_length] at ho
      simp (config := {maxSteps := 2000000, implicitDefEqProofs := false}) only [go_sem, ↓reduceIte, Nat.reduceEqDiff, Nat.reduceAdd, Nat.reduceMul, Nat.reduceLeDiff, Nat.reduceLT, Nat.reduceSub, IntWalk.iteOmega, IntWalk.toNatUp, reduceCtorEq, false_and, and_false, false_or, or_false, true_or, or_true, not_true_eq_false, not_false_eq_true, Bool.not_true, Bool.not_false, Bool.and_true, Bool.true_and, Bool.and_false, Bool.false_and, Bool.not_eq_true, beq_self_eq_true, Nat.add_zero, Int.reduceLE, Int.reduceLT, Int.reduceToNat, Int.reduceNeg, f0, f7, f10, hge]
      have hlv := valD_lt w
      have hp := Nat.pow_le_pow_right (n := 256) (by omega) h16
      rw [H16_eq] at hp
      exact ⟨⟨_, _, a, [], rfl, ho, Ots.nil _ _ _ _ _, w, Dg.nil, by simp only [valD, Nat.mul_zero, Nat.add_zero], lo_lt0 hlv hp, by omega, by simp⟩, hg⟩
    · unfold CutAt at hv
      rw [List.take_length, getD_none (by omega), Nat.zero_mod, Nat.zero_mul, Nat.add_zero] at hv
      simp (config := {maxSteps := 2000000, implicitDefEqProofs := false}) only [go_sem, ↓reduceIte, Nat.reduceEqDiff, Nat.reduceAdd, Nat.reduceMul, Nat.reduceLeDiff, Nat.reduceLT, Nat.reduceSub, IntWalk.iteOmega, IntWalk.toNatUp, reduceCtorEq, false_and, and_false, false_or, or_false, true_or, or_true, not_true_eq_false, not_false_eq_true, Bool.not_true, Bool.not_false, Bool.and_true, Bool.true_and, Bool.and_false, Bool.false_and, Bool.not_eq_true, beq_self_eq_true, Nat.add_zero, Int.reduceLE, Int.reduceLT, Int.reduceToNat, Int.reduceNeg, f0, f10, hge]
      have wl : Dg (a.take 16 ++ [a.getD 16 0 % 4]) := (w.take 16).snoc (by omega)
      have hl16 : (a.take 16).length = 16 := by rw [List.length_take]; omega
      have hlv := valD_lt (w.take 16)
      rw [hl16] at hlv
      refine ⟨⟨_, _, _, _, rfl, olo.bel hgg (Nat.le_refl _), ohi.mono hgh.size, wl, whi, hv, ?_, by rw [List.length_append, hl16]; exact Nat.le_refl _, by omega⟩, hg⟩
      rw [valD_snoc, hl16]
      have hm : a.getD 16 0 % 4 ≤ 3 := by omega
      rw [H16_eq] at hlv ⊢
      exact lo_lt hlv hm
end Go.Proofs.Ytjgbajgmndkfjaa
