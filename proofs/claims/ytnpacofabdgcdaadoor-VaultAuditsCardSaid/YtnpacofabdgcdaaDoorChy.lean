/- Commands and entries in the laws: copies and comparisons; no condition but those in the statements. -/
import Derived.Test.YtnpacofabdgcdaaDoorChx
namespace Go.Proofs.YtnpacofabdgcdaaDoor
open Go Go.V
set_option linter.unusedSimpArgs false
set_option linter.unusedVariables false
set_option maxRecDepth 100000
theorem cmdsLaw_ok (T : World) (h : Hp) (u : Value) (l : List Cmv) (s : Ts cmvC 5 h u l) (hl : l.length ≤ 3518437208883) :
    CallsH Tryd.prog T 40 #[u] h fun v' h' => Ots h.size 25 cmvC 5 h' v' l ∧ Bel h.size h h' := by
  refine CallsH.of_code' (args := [_]) Tryd.func40 rfl rfl rfl rfl ?_
  simp (config := {maxSteps := 2000000, implicitDefEqProofs := false}) only [go_sem, ↓reduceIte, Nat.reduceEqDiff, Nat.reduceAdd, Nat.reduceMul, Nat.reduceLeDiff, Nat.reduceLT, Nat.reduceSub, IntWalk.iteOmega, IntWalk.toNatUp, reduceCtorEq, false_and, and_false, false_or, or_false, true_or, or_true, not_true_eq_false, not_false_eq_true, Bool.not_true, Bool.not_false, Bool.and_true, Bool.true_and, Bool.and_false, Bool.false_and, Bool.not_eq_true, beq_self_eq_true, Nat.add_zero, Int.reduceLE, Int.reduceLT, Int.reduceToNat, Int.reduceNeg]
  refine append_ts (E := 25) (B := h.size) (n := 5) (bytes := 40) tsl46 Tryd.underlying46 tn25 tz25 rfl tb25 (fun _ => rfl) (Ots.nil _ _ cmvC 5 _) (Nat.le_refl _) s (by simp; omega) (by omega) ?_
  intro v' h' ho hb _
  simp (config := {maxSteps := 2000000, implicitDefEqProofs := false}) only [go_sem, ↓reduceIte, Nat.reduceEqDiff, Nat.reduceAdd, Nat.reduceMul, Nat.reduceLeDiff, Nat.reduceLT, Nat.reduceSub, IntWalk.iteOmega, IntWalk.toNatUp, reduceCtorEq, false_and, and_false, false_or, or_false, true_or, or_true, not_true_eq_false, not_false_eq_true, Bool.not_true, Bool.not_false, Bool.and_true, Bool.true_and, Bool.and_false, Bool.false_and, Bool.not_eq_true, beq_self_eq_true, Nat.add_zero, Int.reduceLE, Int.reduceLT, Int.reduceToNat, Int.reduceNeg]
  exact ⟨by simpa using ho, hb⟩
theorem fit_cmds {h : Hp} {k : Nat} {v : Value} (hf : fit Tryd.prog h k 46 [v]) : ∃ l : List Cmv, Ts cmvC 5 h v l ∧ l.length ≤ 3518437208883 := by
  obtain ⟨l, h1, _, h3⟩ := fit_slice (α := Cmv) (enc := cmvC) (n := 5) (ok := fun _ => True) Tryd.underlying46 (by kernel_rfl) (by decide) (fun _ => rfl) (fun k ds hfe => by
    obtain ⟨ds, rfl⟩ : ∃ ds', ds = ds' := ⟨_, rfl⟩
    have hlen : ds.length = 5 := by
      cases k with
      | zero => exact hfe.elim
      | succ k => unfold fit at hfe; rw [Tryd.underlying25] at hfe; exact hfe.1
    have hL := fit_leaf (P := Tryd.prog) (h := h) 5 k 25 ds (rep 5 [3]) (by kernel_rfl) hlen hfe
    obtain ⟨a0, _, rfl, _, _, hL⟩ := fitL_int Tryd.underlying3 hL
    obtain ⟨a1, _, rfl, _, _, hL⟩ := fitL_int Tryd.underlying3 hL
    obtain ⟨a2, _, rfl, _, _, hL⟩ := fitL_int Tryd.underlying3 hL
    obtain ⟨a3, _, rfl, _, _, hL⟩ := fitL_int Tryd.underlying3 hL
    obtain ⟨a4, _, rfl, _, _, hL⟩ := fitL_int Tryd.underlying3 hL
    obtain rfl := fitL_nil hL
    exact ⟨⟨a0, a1, a2, a3, a4⟩, trivial, rfl⟩) hf
  refine ⟨l, ⟨h1⟩, ?_⟩
  have : Tryd.prog.bytesOf 25 = 40 := by kernel_rfl
  rw [this] at h3
  omega
theorem ents_rd {g : Hp} {b o i : Nat} {cs : List Value} (s : cellsAt g b (o + i * 8) cs) (hc : cs.length = 8) : ∀ j n, j + n ≤ 8 → 0 < n → rd g ⟨b, o + i * 8 + j, none⟩ n = some ((cs.drop j).take n) := by
  intro j n hj hn
  have : cellsAt g b (o + i * 8 + j) ((cs.drop j).take n) := by
    intro k hk
    rw [List.length_take, List.length_drop] at hk
    have := s (j + k) (by omega)
    rw [show o + i * 8 + j + k = o + i * 8 + (j + k) by omega, this]
    simp
  exact this.rd (by intro e; have := congrArg List.length e; rw [List.length_take, List.length_drop] at this; simp at this; omega) (by rw [List.length_take, List.length_drop]; omega)
theorem sameEntries_eq (T : World) (h : Hp) (u w : Value) (l : List Etv) (s : TEnts h u l) (t : TEnts h w l) (hl : l.length ≤ 140737488355328) :
    CallsH Tryd.prog T 42 #[u, w] h fun v' h' => v' = .bool true ∧ h' = h := by
  obtain ⟨p, c, rfl, hc1⟩ := s.open
  obtain ⟨q, d, rfl, hc2⟩ := t.open
  refine CallsH.of_code' (args := [_, _]) Tryd.func42 rfl rfl rfl rfl ?_
  simp (config := {maxSteps := 2000000, implicitDefEqProofs := false}) only [go_sem, ↓reduceIte, Nat.reduceEqDiff, Nat.reduceAdd, Nat.reduceMul, Nat.reduceLeDiff, Nat.reduceLT, Nat.reduceSub, IntWalk.iteOmega, IntWalk.toNatUp, reduceCtorEq, false_and, and_false, false_or, or_false, true_or, or_true, not_true_eq_false, not_false_eq_true, Bool.not_true, Bool.not_false, Bool.and_true, Bool.true_and, Bool.and_false, Bool.false_and, Bool.not_eq_true, beq_self_eq_true, Nat.add_zero, Int.reduceLE, Int.reduceLT, Int.reduceToNat, Int.reduceNeg]
  refine VS.loop' (fun F g => g = h ∧ F 0 = .slice p l.length c ∧ F 1 = .slice q l.length d ∧ ∃ i : Nat, i ≤ l.length ∧ F 5 = .int .i64 i)
    (fun F _ => l.length - (vi (F 5)).toNat) rfl ⟨rfl, rfl, rfl, 0, by omega, rfl⟩ ?_
  rintro F g ⟨rfl, f0, f1, i, hi, f5⟩
  by_cases hlt : i < l.length
  · have hlt' : (i : Int) < l.length := by omega
    have hne : l ≠ [] := by intro e; rw [e] at hlt; simp at hlt
    obtain ⟨bb, oo, rfl, hbb, hcs⟩ := hc1 hne
    obtain ⟨b2, o2, rfl, hb2, hcs2⟩ := hc2 hne
    obtain ⟨q1, m1, k1, r1, t1⟩ := hcs i hlt
    obtain ⟨q2, m2, k2, r2, t2⟩ := hcs2 i hlt
    have a0 := ents_rd r1 rfl 0 5 (by omega) (by omega)
    have a5 := ents_rd r1 rfl 5 2 (by omega) (by omega)
    have a7 := r1.hc (i := 7) rfl
    have b0 := ents_rd r2 rfl 0 5 (by omega) (by omega)
    have b5 := ents_rd r2 rfl 5 2 (by omega) (by omega)
    have b7 := r2.hc (i := 7) rfl
    simp only [List.drop_zero, List.take_succ_cons, List.take_zero, List.drop_succ_cons, Nat.add_zero] at a0 a5 b0 b5
    simp (config := {maxSteps := 2000000, implicitDefEqProofs := false}) only [go_sem, ↓reduceIte, Nat.reduceEqDiff, Nat.reduceAdd, Nat.reduceMul, Nat.reduceLeDiff, Nat.reduceLT, Nat.reduceSub, IntWalk.iteOmega, IntWalk.toNatUp, reduceCtorEq, false_and, and_false, false_or, or_false, true_or, or_true, not_true_eq_false, not_false_eq_true, Bool.not_true, Bool.not_false, Bool.and_true, Bool.true_and, Bool.and_false, Bool.false_and, Bool.not_eq_true, beq_self_eq_true, Nat.add_zero, Int.reduceLE, Int.reduceLT, Int.reduceToNat, Int.reduceNeg, f0, f1, f5, hlt']
    refine VS.w (g.size) [] (.q 0 (.q 1 (.q 2 (.q 3 (.q 4 (.q 5 (.q 6 (.q 7 (.q 8 (.q 9 (.q 10 (.q 11 (.q 12 (.q 13 (.q 14 (.q 15 (.q 16 (.q 17 (.q 18 (.q 19 (.q 20 (.q 21 (.q 22 (.q 23 (.q 24 (.q 25 (.q 26 (.q 27 (.q 28 (.q 29 (.q 30 (.q 31 (.q 32 (.q 33 (.q 34 (.s 35 (.q 36 (.q 37 .nil)))))))))))))))))))))))))))))))))))))) mixed (by kernel_rfl) ?_
    simp (config := {maxSteps := 2000000, implicitDefEqProofs := false}) only [go_sem, ↓reduceIte, Nat.reduceEqDiff, Nat.reduceAdd, Nat.reduceMul, Nat.reduceLeDiff, Nat.reduceLT, Nat.reduceSub, IntWalk.iteOmega, IntWalk.toNatUp, reduceCtorEq, false_and, and_false, false_or, or_false, true_or, or_true, not_true_eq_false, not_false_eq_true, Bool.not_true, Bool.not_false, Bool.and_true, Bool.true_and, Bool.and_false, Bool.false_and, Bool.not_eq_true, beq_self_eq_true, Nat.add_zero, Int.reduceLE, Int.reduceLT, Int.reduceToNat, Int.reduceNeg, f0, f1, f5, a0, a5, a7, b0, b5, b7, hbb, hb2, hlt']
    refine (sameBytes_ok T _ _ _ _ _ t1 t2).pure ?_
    simp (config := {maxSteps := 2000000, implicitDefEqProofs := false}) only [go_sem, ↓reduceIte, Nat.reduceEqDiff, Nat.reduceAdd, Nat.reduceMul, Nat.reduceLeDiff, Nat.reduceLT, Nat.reduceSub, IntWalk.iteOmega, IntWalk.toNatUp, reduceCtorEq, false_and, and_false, false_or, or_false, true_or, or_true, not_true_eq_false, not_false_eq_true, Bool.not_true, Bool.not_false, Bool.and_true, Bool.true_and, Bool.and_false, Bool.false_and, Bool.not_eq_true, beq_self_eq_true, Nat.add_zero, Int.reduceLE, Int.reduceLT, Int.reduceToNat, Int.reduceNeg, f5]
    refine ⟨⟨rfl, f0, f1, i + 1, hlt, rfl⟩, ?_⟩
    simp only [vi, updo_some, ↓reduceIte, f5]; omega
  · have hge : ¬ (i : Int) < l.length := by omega
    simp (config := {maxSteps := 2000000, implicitDefEqProofs := false}) only [go_sem, ↓reduceIte, Nat.reduceEqDiff, Nat.reduceAdd, Nat.reduceMul, Nat.reduceLeDiff, Nat.reduceLT, Nat.reduceSub, IntWalk.iteOmega, IntWalk.toNatUp, reduceCtorEq, false_and, and_false, false_or, or_false, true_or, or_true, not_true_eq_false, not_false_eq_true, Bool.not_true, Bool.not_false, Bool.and_true, Bool.true_and, Bool.and_false, Bool.false_and, Bool.not_eq_true, beq_self_eq_true, Nat.add_zero, Int.reduceLE, Int.reduceLT, Int.reduceToNat, Int.reduceNeg, f0, f5, hge]
theorem chnR_ok : ∀ (l : List Cmv) (st : Chn), ChnOk st → ChnOk (chnR st l).2 := by
  intro l
  induction l with
  | nil => intro st h; exact h
  | cons y l ih =>
    intro st h
    by_cases q : chnE st.cs y = 0
    · rw [chnR_go q]; exact ih _ (step_ok h q).1
    · rw [chnR_stop q]; exact h
theorem chainO_length (l : List Cmv) : (chainO l).length ≤ l.length := by
  unfold chainO
  split
  · rename_i e
    rw [chnR_len l chn0 e]
    simp [chn0]
  · exact Nat.zero_le _
theorem chainS_fit (l : List Cmv) : fitK storeK (chainS l) = true := by
  unfold chainS
  split
  · exact (chnR_ok l chn0 chn0_ok).fit
  · rfl
end Go.Proofs.YtnpacofabdgcdaaDoor
