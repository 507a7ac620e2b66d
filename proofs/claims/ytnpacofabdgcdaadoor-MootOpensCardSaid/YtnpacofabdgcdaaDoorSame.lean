/- The comparison that takes as long wherever two lists differ; no condition but those in the statements. -/
import Derived.Test.YtnpacofabdgcdaaDoorBase
namespace Go.Proofs.YtnpacofabdgcdaaDoor
open Go Go.V
set_option linter.unusedSimpArgs false
set_option linter.unusedVariables false
set_option maxRecDepth 100000
theorem same_ok (T : World) (h : Hp) (v u : Value) (l k : List Nat) (s : Bs h v l) (t : Bs h u k) (hl : l.length ≤ 140737488355328) :
    CallsH Tryd.prog T 80 #[v, u] h fun v' h' => v' = .bool (decide (l = k)) ∧ h' = h := by
  obtain ⟨p, c, rfl, hc1⟩ := s.open
  obtain ⟨q, d, rfl, hc2⟩ := t.open
  refine CallsH.of_code' (args := [_, _]) Tryd.func80 rfl rfl rfl rfl ?_
  by_cases hlen : l.length = k.length
  · have hlen' : (l.length : Int) = k.length := by omega
    simp (config := {contextual := true, maxSteps := 2000000, implicitDefEqProofs := false}) only [go_sem, ↓reduceIte, Nat.reduceEqDiff, Nat.reduceAdd, Nat.reduceMul, Nat.reduceLeDiff, Nat.reduceLT, Nat.reduceSub, IntWalk.iteOmega, IntWalk.toNatUp, reduceCtorEq, Int.reduceLE, Int.reduceLT, Int.reduceToNat, Int.reduceNeg, hlen']
    refine VS.loop' (fun F g => g = h ∧ F 0 = .slice p l.length c ∧ F 1 = .slice q k.length d ∧ F 13 = .int .i64 l.length ∧ ∃ i x : Nat, i ≤ l.length ∧ x < 256 ∧ F 14 = .int .i64 i ∧ F 5 = .int .u8 x ∧ (x = 0 ↔ l.take i = k.take i))
      (fun F _ => l.length - (vi (F 14)).toNat) rfl ⟨rfl, rfl, rfl, by rw [hlen']; rfl, 0, 0, by omega, by omega, rfl, rfl, by simp⟩ ?_
    rintro F g ⟨rfl, f0, f1, f13, i, x, hi, hx, f14, f5, hxi⟩
    by_cases hlt : i < l.length
    · have hlt' : (i : Int) < l.length := by omega
      have hltk : i < k.length := by omega
      obtain ⟨b1, o1, rfl, hb1, g1⟩ := hc1 (by intro e; subst e; simp at hlt)
      obtain ⟨b2, o2, rfl, hb2, g2⟩ := hc2 (by intro e; subst e; simp at hltk)
      have g1i := g1 i hlt
      have g2i := g2 i hltk
      have y1 := s.byte _ (List.getElem_mem hlt)
      have y2 := t.byte _ (List.getElem_mem hltk)
      simp (config := {contextual := true, maxSteps := 2000000, implicitDefEqProofs := false}) only [go_sem, ↓reduceIte, Nat.reduceEqDiff, Nat.reduceAdd, Nat.reduceMul, Nat.reduceLeDiff, Nat.reduceLT, Nat.reduceSub, IntWalk.iteOmega, IntWalk.toNatUp, reduceCtorEq, Int.reduceLE, Int.reduceLT, Int.reduceToNat, Int.reduceNeg, f0, f1, f13, f14, f5, hlt']
      refine VS.q mixed (by kernel_rfl) ?_
      simp (config := {contextual := true, maxSteps := 2000000, implicitDefEqProofs := false}) only [go_sem, ↓reduceIte, Nat.reduceEqDiff, Nat.reduceAdd, Nat.reduceMul, Nat.reduceLeDiff, Nat.reduceLT, Nat.reduceSub, IntWalk.iteOmega, IntWalk.toNatUp, reduceCtorEq, Int.reduceLE, Int.reduceLT, Int.reduceToNat, Int.reduceNeg, f0, f1, f13, f14, f5, g1i, g2i]
      have e1 := xor_u8 l[i] k[i] y1 y2
      have e2 : l[i] ^^^ k[i] < 256 := Nat.xor_lt_two_pow (n := 8) y1 y2
      have e3 := or_u8 x (l[i] ^^^ k[i]) hx e2
      rw [e1, e3]
      refine ⟨⟨rfl, f0, f1, f13, i + 1, x ||| (l[i] ^^^ k[i]), hlt, Nat.or_lt_two_pow (n := 8) hx e2, rfl, rfl, ?_⟩, ?_⟩
      · rw [take_snoc l i hlt, take_snoc k i hltk, or_zero_iff, xor_zero_iff, hxi]
        constructor
        · rintro ⟨a, b⟩; rw [a, b]
        · intro a
          have a2 := List.append_inj' a rfl
          exact ⟨a2.1, by simpa using a2.2⟩
      · simp only [vi, updo_some, ↓reduceIte, f14]; omega
    · have hge : ¬ (i : Int) < l.length := by omega
      simp (config := {contextual := true, maxSteps := 2000000, implicitDefEqProofs := false}) only [go_sem, ↓reduceIte, Nat.reduceEqDiff, Nat.reduceAdd, Nat.reduceMul, Nat.reduceLeDiff, Nat.reduceLT, Nat.reduceSub, IntWalk.iteOmega, IntWalk.toNatUp, reduceCtorEq, Int.reduceLE, Int.reduceLT, Int.reduceToNat, Int.reduceNeg, f0, f1, f13, f14, f5, hge]
      obtain rfl : i = l.length := by omega
      rw [List.take_length, hlen, List.take_length] at hxi
      congr 1
      rw [decide_eq_decide, ← hxi]
      omega
  · have hlen' : ¬ (l.length : Int) = k.length := by omega
    simp (config := {contextual := true, maxSteps := 2000000, implicitDefEqProofs := false}) only [go_sem, ↓reduceIte, Nat.reduceEqDiff, Nat.reduceAdd, Nat.reduceMul, Nat.reduceLeDiff, Nat.reduceLT, Nat.reduceSub, IntWalk.iteOmega, IntWalk.toNatUp, reduceCtorEq, Int.reduceLE, Int.reduceLT, Int.reduceToNat, Int.reduceNeg, hlen']
    congr 1
    simp; intro e; rw [e] at hlen; exact hlen rfl
end Go.Proofs.YtnpacofabdgcdaaDoor
