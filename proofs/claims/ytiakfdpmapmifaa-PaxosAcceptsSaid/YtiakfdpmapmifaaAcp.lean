/- A vote, laid among votes that stand by slots: what the program computes; no condition but those in the statements. -/
import Derived.Test.YtiakfdpmapmifaaAcv
import Derived.Test.YtiakfdpmapmifaaW21
namespace Go.Proofs.Ytiakfdpmapmifaa
open Go Go.V
set_option linter.unusedSimpArgs false
set_option linter.unusedVariables false
set_option maxRecDepth 100000
theorem accCmp_ok (T : World) (h : Hp) (x y : Vt) : CallsH Try.prog T 30 #[.agg (voteC x).toArray, .agg (voteC y).toArray] h fun v' h' => v' = .int .i64 (icmp x.slot y.slot) ∧ Bel h.size h h' := by
  refine CallsH.of_code' (args := [_, _]) Try.func30 rfl rfl rfl rfl ?_
  unfold voteC
  simp (config := {maxSteps := 2000000, implicitDefEqProofs := false}) only [go_sem, ↓reduceIte, Nat.reduceEqDiff, Nat.reduceAdd, Nat.reduceMul, Nat.reduceLeDiff, Nat.reduceLT, Nat.reduceSub, IntWalk.iteOmega, IntWalk.toNatUp, reduceCtorEq, false_and, and_false, false_or, or_false, true_or, or_true, not_true_eq_false, not_false_eq_true, Bool.not_true, Bool.not_false, Bool.and_true, Bool.true_and, Bool.and_false, Bool.false_and, Bool.not_eq_true, beq_self_eq_true, Nat.add_zero, Int.reduceLE, Int.reduceLT, Int.reduceToNat, Int.reduceNeg]
  refine (cmpCompare_ok T _ _ _).pure ?_
  simp (config := {maxSteps := 2000000, implicitDefEqProofs := false}) only [go_sem, ↓reduceIte, Nat.reduceEqDiff, Nat.reduceAdd, Nat.reduceMul, Nat.reduceLeDiff, Nat.reduceLT, Nat.reduceSub, IntWalk.iteOmega, IntWalk.toNatUp, reduceCtorEq, false_and, and_false, false_or, or_false, true_or, or_true, not_true_eq_false, not_false_eq_true, Bool.not_true, Bool.not_false, Bool.and_true, Bool.true_and, Bool.and_false, Bool.false_and, Bool.not_eq_true, beq_self_eq_true, Nat.add_zero, Int.reduceLE, Int.reduceLT, Int.reduceToNat, Int.reduceNeg]
  (repeat' (first | exact Bel.refl _ _ | assumption | refine Bel.add ?_ _ | refine Bel.addSet ?_ (by first | omega | (simp; omega)) _ | refine Bel.trans (by assumption) ?_))
def Found (l : List Vt) (s : Int) (i : Nat) (b : Bool) : Prop := (b = true ∧ ∃ hi : i < l.length, l[i].slot = s) ∨ (b = false ∧ (∀ j (hj : j < l.length), j < i → l[j].slot < s) ∧ ∀ j (hj : j < l.length), i ≤ j → s < l[j].slot)
theorem icmp_neg (a b : Int) : icmp a b < 0 ↔ a < b := by unfold icmp; split <;> (try split) <;> omega
theorem icmp_zero (a b : Int) : icmp a b = 0 ↔ a = b := by unfold icmp; split <;> (try split) <;> omega
theorem half_u64 {x : Nat} : shrOp .u64 (x : Int) 1 = ((x / 2 : Nat) : Int) := by
  rw [show (1 : Int) = ((1 : Nat) : Int) from rfl, shr_nat .u64 x 1 (by decide), Nat.shiftRight_eq_div_pow]
theorem bsearch_ok (T : World) (h : Hp) (u : Value) (l : List Vt) (v : Vt) (s : Ts voteC 8 h u l) (hs : Srt l) (hl : l.length ≤ 2199023255552) :
    CallsH Try.prog T 29 #[u, .agg (voteC v).toArray, .func (.func 30) #[] #[]] h fun v' h' => (∃ (i : Nat) (b : Bool), i ≤ l.length ∧ v' = .tuple [.int .i64 i, .bool b].toArray ∧ Found l v.slot i b) ∧ Bel h.size h h' := by
  obtain ⟨p, c, rfl, hcs⟩ := votes_open s
  refine CallsH.of_code' (args := [_, _, _]) Try.func29 rfl rfl rfl rfl ?_
  unfold voteC
  simp (config := {maxSteps := 2000000, implicitDefEqProofs := false}) only [go_sem, ↓reduceIte, Nat.reduceEqDiff, Nat.reduceAdd, Nat.reduceMul, Nat.reduceLeDiff, Nat.reduceLT, Nat.reduceSub, IntWalk.iteOmega, IntWalk.toNatUp, reduceCtorEq, false_and, and_false, false_or, or_false, true_or, or_true, not_true_eq_false, not_false_eq_true, Bool.not_true, Bool.not_false, Bool.and_true, Bool.true_and, Bool.and_false, Bool.false_and, Bool.not_eq_true, beq_self_eq_true, Nat.add_zero, Int.reduceLE, Int.reduceLT, Int.reduceToNat, Int.reduceNeg]
  refine VS.loop' (fun F g => Bel h.size h g ∧ g[h.size]? = some (.cells (voteC v).toArray 43) ∧ F 0 = .slice p l.length c ∧ F 2 = .func (.func 30) #[] #[] ∧ F 4 = .pointer (some ⟨h.size, 0, none⟩) ∧ F 8 = .int .i64 l.length ∧ ∃ i j : Nat, i ≤ j ∧ j ≤ l.length ∧ F 9 = .int .i64 i ∧ F 10 = .int .i64 j ∧ (∀ k (hk : k < l.length), k < i → l[k].slot < v.slot) ∧ (∀ k (hk : k < l.length), j ≤ k → v.slot ≤ l[k].slot))
    (fun F _ => (vi (F 10)).toNat - (vi (F 9)).toNat) rfl ⟨(Bel.refl _ _).add _, get_push_last, rfl, rfl, rfl, rfl, 0, l.length, by omega, by omega, rfl, rfl, fun k _ hk => by omega, fun k hk hk' => by omega⟩ ?_
  rintro F g ⟨hg, hx, f0, f2, f4, f8, i, j, hij, hj, f9, f10, lo, hi⟩
  have hgs := hg.size
  have hz := lt_of_get hx
  have rx : rd g ⟨h.size, 0, none⟩ 8 = some (voteC v) := rd_last hx rfl
  unfold voteC at rx
  by_cases hlt : i < j
  · have hlt' : (i : Int) < j := by omega
    have e1 : (i : Int) + (j : Int) = ((i + j : Nat) : Int) := by omega
    have e2 : ((i + j : Nat) : Int) % 18446744073709551616 = ((i + j : Nat) : Int) := by omega
    have e3 := half_u64 (x := i + j)
    obtain ⟨m, hm⟩ : ∃ m, m = (i + j) / 2 := ⟨_, rfl⟩
    rw [← hm] at e3
    have hml : m < l.length := by omega
    have hml' : (m : Int) < l.length := by omega
    obtain ⟨bb, oo, rfl, hbb, _, hcs⟩ := hcs (by intro e; rw [e] at hml; simp at hml)
    have rm : rd g ⟨bb, oo + m * 8, none⟩ 8 = some (voteC l[m]) := by rw [rd_bel hg (by exact hbb)]; exact hcs m hml
    obtain ⟨y, hy⟩ : ∃ y, y = l[m] := ⟨_, rfl⟩
    rw [← hy] at rm
    unfold voteC at rm
    simp (config := {maxSteps := 2000000, implicitDefEqProofs := false}) only [go_sem, ↓reduceIte, Nat.reduceEqDiff, Nat.reduceAdd, Nat.reduceMul, Nat.reduceLeDiff, Nat.reduceLT, Nat.reduceSub, IntWalk.iteOmega, IntWalk.toNatUp, reduceCtorEq, false_and, and_false, false_or, or_false, true_or, or_true, not_true_eq_false, not_false_eq_true, Bool.not_true, Bool.not_false, Bool.and_true, Bool.true_and, Bool.and_false, Bool.false_and, Bool.not_eq_true, beq_self_eq_true, Nat.add_zero, Int.reduceLE, Int.reduceLT, Int.reduceToNat, Int.reduceNeg, f9, f10, hlt', e1, e2, e3]
    refine VS.w (g.size) [] (.q 0 (.q 1 (.q 2 (.q 3 (.q 4 (.q 5 (.s 6 (.q 7 .nil)))))))) mixed (by kernel_rfl) ?_
    have q1 : bb < g.size := by omega
    simp (config := {maxSteps := 2000000, implicitDefEqProofs := false}) only [go_sem, ↓reduceIte, Nat.reduceEqDiff, Nat.reduceAdd, Nat.reduceMul, Nat.reduceLeDiff, Nat.reduceLT, Nat.reduceSub, IntWalk.iteOmega, IntWalk.toNatUp, reduceCtorEq, false_and, and_false, false_or, or_false, true_or, or_true, not_true_eq_false, not_false_eq_true, Bool.not_true, Bool.not_false, Bool.and_true, Bool.true_and, Bool.and_false, Bool.false_and, Bool.not_eq_true, beq_self_eq_true, Nat.add_zero, Int.reduceLE, Int.reduceLT, Int.reduceToNat, Int.reduceNeg, f0, f2, f4, hml', rm, rx, hz, q1]
    refine (accCmp_ok T g y v).use ?_
    rintro _ g1 ⟨rfl, b1⟩
    have hg1 := hg.trans (b1.mono hgs)
    have hx1 := b1.get hz hx
    by_cases q : y.slot < v.slot
    · have q' := (icmp_neg _ _).2 q
      simp (config := {maxSteps := 2000000, implicitDefEqProofs := false}) only [go_sem, ↓reduceIte, Nat.reduceEqDiff, Nat.reduceAdd, Nat.reduceMul, Nat.reduceLeDiff, Nat.reduceLT, Nat.reduceSub, IntWalk.iteOmega, IntWalk.toNatUp, reduceCtorEq, false_and, and_false, false_or, or_false, true_or, or_true, not_true_eq_false, not_false_eq_true, Bool.not_true, Bool.not_false, Bool.and_true, Bool.true_and, Bool.and_false, Bool.false_and, Bool.not_eq_true, beq_self_eq_true, Nat.add_zero, Int.reduceLE, Int.reduceLT, Int.reduceToNat, Int.reduceNeg, q', f0, f2, f4, f8, f9, f10]
      refine ⟨b1, ⟨hg1, hx1, f0, f2, f4, f8, m + 1, j, by omega, hj, rfl, f10, fun k hk hkm => ?_, hi⟩, ?_⟩
      · by_cases e : k = m
        · subst e; rw [← hy]; exact q
        · have := hs k m hk hml (by omega); rw [← hy] at this; omega
      · simp only [vi, updo_some, ↓reduceIte, Nat.reduceEqDiff, f9, f10]; omega
    · have q' : ¬ icmp y.slot v.slot < 0 := fun h => q ((icmp_neg _ _).1 h)
      simp (config := {maxSteps := 2000000, implicitDefEqProofs := false}) only [go_sem, ↓reduceIte, Nat.reduceEqDiff, Nat.reduceAdd, Nat.reduceMul, Nat.reduceLeDiff, Nat.reduceLT, Nat.reduceSub, IntWalk.iteOmega, IntWalk.toNatUp, reduceCtorEq, false_and, and_false, false_or, or_false, true_or, or_true, not_true_eq_false, not_false_eq_true, Bool.not_true, Bool.not_false, Bool.and_true, Bool.true_and, Bool.and_false, Bool.false_and, Bool.not_eq_true, beq_self_eq_true, Nat.add_zero, Int.reduceLE, Int.reduceLT, Int.reduceToNat, Int.reduceNeg, q', f0, f2, f4, f8, f9, f10]
      refine ⟨b1, ⟨hg1, hx1, f0, f2, f4, f8, i, m, by omega, by omega, f9, rfl, lo, fun k hk hkm => ?_⟩, ?_⟩
      · by_cases e : k = m
        · subst e; rw [← hy]; omega
        · have := hs m k hml hk (by omega); rw [← hy] at this; omega
      · simp only [vi, updo_some, ↓reduceIte, Nat.reduceEqDiff, f9, f10]; omega
  · have hlt' : ¬ (i : Int) < j := by omega
    obtain rfl : i = j := by omega
    by_cases hil : i < l.length
    · have hil' : (i : Int) < l.length := by omega
      obtain ⟨bb, oo, rfl, hbb, _, hcs⟩ := hcs (by intro e; rw [e] at hil; simp at hil)
      have rm : rd g ⟨bb, oo + i * 8, none⟩ 8 = some (voteC l[i]) := by rw [rd_bel hg (by exact hbb)]; exact hcs i hil
      have hge := hi i hil (Nat.le_refl _)
      obtain ⟨y, hy⟩ : ∃ y, y = l[i] := ⟨_, rfl⟩
      rw [← hy] at rm hge
      unfold voteC at rm
      simp (config := {maxSteps := 2000000, implicitDefEqProofs := false}) only [go_sem, ↓reduceIte, Nat.reduceEqDiff, Nat.reduceAdd, Nat.reduceMul, Nat.reduceLeDiff, Nat.reduceLT, Nat.reduceSub, IntWalk.iteOmega, IntWalk.toNatUp, reduceCtorEq, false_and, and_false, false_or, or_false, true_or, or_true, not_true_eq_false, not_false_eq_true, Bool.not_true, Bool.not_false, Bool.and_true, Bool.true_and, Bool.and_false, Bool.false_and, Bool.not_eq_true, beq_self_eq_true, Nat.add_zero, Int.reduceLE, Int.reduceLT, Int.reduceToNat, Int.reduceNeg, f9, f10, hlt']
      refine VS.w (g.size) [] (.q 0 (.q 1 (.q 2 (.q 3 (.q 4 (.q 5 (.q 6 (.q 7 (.q 8 (.q 9 (.q 10 (.s 11 (.q 12 (.q 13 (.q 14 (.q 15 .nil)))))))))))))))) mixed (by kernel_rfl) ?_
      have q1 : bb < g.size := by omega
      simp (config := {maxSteps := 2000000, implicitDefEqProofs := false}) only [go_sem, ↓reduceIte, Nat.reduceEqDiff, Nat.reduceAdd, Nat.reduceMul, Nat.reduceLeDiff, Nat.reduceLT, Nat.reduceSub, IntWalk.iteOmega, IntWalk.toNatUp, reduceCtorEq, false_and, and_false, false_or, or_false, true_or, or_true, not_true_eq_false, not_false_eq_true, Bool.not_true, Bool.not_false, Bool.and_true, Bool.true_and, Bool.and_false, Bool.false_and, Bool.not_eq_true, beq_self_eq_true, Nat.add_zero, Int.reduceLE, Int.reduceLT, Int.reduceToNat, Int.reduceNeg, f0, f2, f4, f8, f9, f10, hil', rm, rx, hz, q1]
      refine (accCmp_ok T g y v).use ?_
      rintro _ g1 ⟨rfl, b1⟩
      have hg1 := hg.trans (b1.mono hgs)
      by_cases q : y.slot = v.slot
      · have q' := (icmp_zero _ _).2 q
        simp (config := {maxSteps := 2000000, implicitDefEqProofs := false}) only [go_sem, ↓reduceIte, Nat.reduceEqDiff, Nat.reduceAdd, Nat.reduceMul, Nat.reduceLeDiff, Nat.reduceLT, Nat.reduceSub, IntWalk.iteOmega, IntWalk.toNatUp, reduceCtorEq, false_and, and_false, false_or, or_false, true_or, or_true, not_true_eq_false, not_false_eq_true, Bool.not_true, Bool.not_false, Bool.and_true, Bool.true_and, Bool.and_false, Bool.false_and, Bool.not_eq_true, beq_self_eq_true, Nat.add_zero, Int.reduceLE, Int.reduceLT, Int.reduceToNat, Int.reduceNeg, q']
        exact ⟨b1, ⟨i, true, by omega, rfl, .inl ⟨rfl, hil, by rw [← hy]; exact q⟩⟩, hg1⟩
      · have q' : ¬ icmp y.slot v.slot = 0 := fun h => q ((icmp_zero _ _).1 h)
        simp (config := {maxSteps := 2000000, implicitDefEqProofs := false}) only [go_sem, ↓reduceIte, Nat.reduceEqDiff, Nat.reduceAdd, Nat.reduceMul, Nat.reduceLeDiff, Nat.reduceLT, Nat.reduceSub, IntWalk.iteOmega, IntWalk.toNatUp, reduceCtorEq, false_and, and_false, false_or, or_false, true_or, or_true, not_true_eq_false, not_false_eq_true, Bool.not_true, Bool.not_false, Bool.and_true, Bool.true_and, Bool.and_false, Bool.false_and, Bool.not_eq_true, beq_self_eq_true, Nat.add_zero, Int.reduceLE, Int.reduceLT, Int.reduceToNat, Int.reduceNeg, q']
        refine ⟨b1, ⟨i, false, by omega, rfl, .inr ⟨rfl, fun k hk hkm => lo k hk hkm, fun k hk hkm => ?_⟩⟩, hg1⟩
        by_cases e : k = i
        · subst e; rw [← hy]; omega
        · have := hs i k hil hk (by omega); rw [← hy] at this; omega
    · have hil' : ¬ (i : Int) < l.length := by omega
      simp (config := {maxSteps := 2000000, implicitDefEqProofs := false}) only [go_sem, ↓reduceIte, Nat.reduceEqDiff, Nat.reduceAdd, Nat.reduceMul, Nat.reduceLeDiff, Nat.reduceLT, Nat.reduceSub, IntWalk.iteOmega, IntWalk.toNatUp, reduceCtorEq, false_and, and_false, false_or, or_false, true_or, or_true, not_true_eq_false, not_false_eq_true, Bool.not_true, Bool.not_false, Bool.and_true, Bool.true_and, Bool.and_false, Bool.false_and, Bool.not_eq_true, beq_self_eq_true, Nat.add_zero, Int.reduceLE, Int.reduceLT, Int.reduceToNat, Int.reduceNeg, f9, f10, hlt']
      refine VS.w (g.size) [] (.q 0 (.q 1 (.q 2 (.q 3 (.q 4 (.q 5 (.q 6 (.q 7 (.q 8 (.q 9 (.q 10 (.s 11 (.q 12 (.q 13 (.q 14 (.q 15 .nil)))))))))))))))) mixed (by kernel_rfl) ?_
      simp (config := {maxSteps := 2000000, implicitDefEqProofs := false}) only [go_sem, ↓reduceIte, Nat.reduceEqDiff, Nat.reduceAdd, Nat.reduceMul, Nat.reduceLeDiff, Nat.reduceLT, Nat.reduceSub, IntWalk.iteOmega, IntWalk.toNatUp, reduceCtorEq, false_and, and_false, false_or, or_false, true_or, or_true, not_true_eq_false, not_false_eq_true, Bool.not_true, Bool.not_false, Bool.and_true, Bool.true_and, Bool.and_false, Bool.false_and, Bool.not_eq_true, beq_self_eq_true, Nat.add_zero, Int.reduceLE, Int.reduceLT, Int.reduceToNat, Int.reduceNeg, f0, f2, f4, f8, f9, f10, hil']
      exact ⟨⟨i, false, by omega, rfl, .inr ⟨rfl, fun k hk hkm => lo k hk hkm, fun k hk hkm => by omega⟩⟩, hg⟩
end Go.Proofs.Ytiakfdpmapmifaa
