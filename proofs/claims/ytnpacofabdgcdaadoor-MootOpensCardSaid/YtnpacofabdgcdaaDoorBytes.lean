/- Bytes joined and cloned: what the two small functions compute; no condition but those in the statements. -/
import Derived.Test.YtnpacofabdgcdaaDoorBase
import Derived.Test.YtnpacofabdgcdaaDoorW4
namespace Go.Proofs.YtnpacofabdgcdaaDoor
open Go Go.V
set_option linter.unusedSimpArgs false
set_option linter.unusedVariables false
set_option maxRecDepth 100000
theorem joined_ok (T : World) (h : Hp) (v u : Value) (l k : List Nat) (s : Bs h v l) (t : Bs h u k) (hl : l.length + k.length ≤ 140737488355328) :
    CallsH Tryd.prog T 76 #[v, u] h fun v' h' => OBs h.size 5 h' v' (l ++ k) ∧ Bel h.size h h' := by
  obtain ⟨p, c, rfl, hc1⟩ := s.open
  obtain ⟨q, d, rfl, hc2⟩ := t.open
  refine CallsH.of_code' (args := [_, _]) Tryd.func76 rfl rfl rfl rfl ?_
  simp (config := {contextual := true, maxSteps := 2000000, implicitDefEqProofs := false}) only [go_sem, ↓reduceIte, Nat.reduceEqDiff, Nat.reduceAdd, Nat.reduceMul, Nat.reduceLeDiff, Nat.reduceLT, Nat.reduceSub, IntWalk.iteOmega, IntWalk.toNatUp, reduceCtorEq, Int.reduceLE, Int.reduceLT, Int.reduceToNat, Int.reduceNeg]
  refine VS.loop' (fun F g => Bel h.size h g ∧ F 0 = .slice p l.length c ∧ F 1 = .slice q k.length d ∧ ∃ i : Nat, i ≤ l.length ∧ F 6 = .int .i64 i ∧ OBs h.size 5 g (F 5) (l.take i))
    (fun F _ => l.length - (vi (F 6)).toNat) rfl ⟨Bel.refl _ _, rfl, rfl, 0, by omega, rfl, OBs.nil _ _ _⟩ ?_
  rintro F g ⟨hb, f0, f1, i, hi, f6, ho⟩
  by_cases hlt : i < l.length
  · have hlt' : (i : Int) < l.length := by omega
    obtain ⟨b1, o1, rfl, hb1, g1⟩ := hc1 (by intro e; subst e; simp at hlt)
    have g1i : hc g ⟨b1, o1 + i, none⟩ = some (.int .u8 (l[i] : Nat)) := by rw [hb.hc (by exact hb1)]; exact g1 i hlt
    simp (config := {contextual := true, maxSteps := 2000000, implicitDefEqProofs := false}) only [go_sem, ↓reduceIte, Nat.reduceEqDiff, Nat.reduceAdd, Nat.reduceMul, Nat.reduceLeDiff, Nat.reduceLT, Nat.reduceSub, IntWalk.iteOmega, IntWalk.toNatUp, reduceCtorEq, Int.reduceLE, Int.reduceLT, Int.reduceToNat, Int.reduceNeg, f0, f1, f6, hlt', g1i]
    have y1 := s.byte _ (List.getElem_mem hlt)
    refine append_bytes (E := 5) (B := h.size) tsl29 Tryd.underlying29 tn5 tz5 tb5 (ho.push _) (by have := hb.size; simp; omega) (Bs.one y1 1) (by simp; omega) ?_
    intro v' h' ho' hb' _
    simp (config := {contextual := true, maxSteps := 2000000, implicitDefEqProofs := false}) only [go_sem, ↓reduceIte, Nat.reduceEqDiff, Nat.reduceAdd, Nat.reduceMul, Nat.reduceLeDiff, Nat.reduceLT, Nat.reduceSub, IntWalk.iteOmega, IntWalk.toNatUp, reduceCtorEq, Int.reduceLE, Int.reduceLT, Int.reduceToNat, Int.reduceNeg, f0, f1, f6]
    refine ⟨⟨(hb.trans (Bel.push hb.size _)).trans hb', f0, f1, i + 1, hlt, rfl, ?_⟩, ?_⟩
    · rw [take_snoc l i hlt]; exact ho'
    · simp only [vi, updo_some, ↓reduceIte, f6]; omega
  · have hge : ¬ (i : Int) < l.length := by omega
    obtain rfl : i = l.length := by omega
    rw [List.take_length] at ho
    simp (config := {contextual := true, maxSteps := 2000000, implicitDefEqProofs := false}) only [go_sem, ↓reduceIte, Nat.reduceEqDiff, Nat.reduceAdd, Nat.reduceMul, Nat.reduceLeDiff, Nat.reduceLT, Nat.reduceSub, IntWalk.iteOmega, IntWalk.toNatUp, reduceCtorEq, Int.reduceLE, Int.reduceLT, Int.reduceToNat, Int.reduceNeg, f0, f1, f6, hge]
    refine VS.loop' (fun F g => Bel h.size h g ∧ F 1 = .slice q k.length d ∧ ∃ i : Nat, i ≤ k.length ∧ F 7 = .int .i64 i ∧ OBs h.size 5 g (F 5) (l ++ k.take i))
      (fun F _ => k.length - (vi (F 7)).toNat) rfl ⟨hb, f1, 0, by omega, rfl, by rw [List.take_zero, List.append_nil]; exact ho⟩ ?_
    clear f0 f1 f6 ho hb F g
    rintro F g ⟨hb, f1, i, hi, f7, ho⟩
    by_cases hlt : i < k.length
    · have hlt' : (i : Int) < k.length := by omega
      obtain ⟨b1, o1, rfl, hb1, g1⟩ := hc2 (by intro e; subst e; simp at hlt)
      have g1i : hc g ⟨b1, o1 + i, none⟩ = some (.int .u8 (k[i] : Nat)) := by rw [hb.hc (by exact hb1)]; exact g1 i hlt
      simp (config := {contextual := true, maxSteps := 2000000, implicitDefEqProofs := false}) only [go_sem, ↓reduceIte, Nat.reduceEqDiff, Nat.reduceAdd, Nat.reduceMul, Nat.reduceLeDiff, Nat.reduceLT, Nat.reduceSub, IntWalk.iteOmega, IntWalk.toNatUp, reduceCtorEq, Int.reduceLE, Int.reduceLT, Int.reduceToNat, Int.reduceNeg, f1, f7, hlt', g1i]
      have y1 := t.byte _ (List.getElem_mem hlt)
      refine append_bytes (E := 5) (B := h.size) tsl29 Tryd.underlying29 tn5 tz5 tb5 (ho.push _) (by have := hb.size; simp; omega) (Bs.one y1 1) (by simp; omega) ?_
      intro v' h' ho' hb' _
      simp (config := {contextual := true, maxSteps := 2000000, implicitDefEqProofs := false}) only [go_sem, ↓reduceIte, Nat.reduceEqDiff, Nat.reduceAdd, Nat.reduceMul, Nat.reduceLeDiff, Nat.reduceLT, Nat.reduceSub, IntWalk.iteOmega, IntWalk.toNatUp, reduceCtorEq, Int.reduceLE, Int.reduceLT, Int.reduceToNat, Int.reduceNeg, f1, f7]
      refine ⟨⟨(hb.trans (Bel.push hb.size _)).trans hb', f1, i + 1, hlt, rfl, ?_⟩, ?_⟩
      · rw [take_snoc k i hlt, ← List.append_assoc]; exact ho'
      · simp only [vi, updo_some, ↓reduceIte, f7]; omega
    · have hge : ¬ (i : Int) < k.length := by omega
      obtain rfl : i = k.length := by omega
      rw [List.take_length] at ho
      simp (config := {contextual := true, maxSteps := 2000000, implicitDefEqProofs := false}) only [go_sem, ↓reduceIte, Nat.reduceEqDiff, Nat.reduceAdd, Nat.reduceMul, Nat.reduceLeDiff, Nat.reduceLT, Nat.reduceSub, IntWalk.iteOmega, IntWalk.toNatUp, reduceCtorEq, Int.reduceLE, Int.reduceLT, Int.reduceToNat, Int.reduceNeg, f1, f7, hge]
      exact ⟨ho, hb⟩
theorem clone_ok (T : World) (h : Hp) (v : Value) (l : List Nat) (s : Bs h v l) (hl : l.length ≤ 140737488355328) :
    CallsH Tryd.prog T 84 #[v] h fun v' h' => OBs h.size 5 h' v' l ∧ Bel h.size h h' := by
  obtain ⟨p, c, rfl, hc1⟩ := s.open
  refine CallsH.of_code' (args := [_]) Tryd.func84 rfl rfl rfl rfl ?_
  cases p with
  | none =>
    have : l = [] := by
      cases l with
      | nil => rfl
      | cons x l => obtain ⟨b, o, hp, _⟩ := hc1 (by simp); cases hp
    subst this
    simp (config := {contextual := true, maxSteps := 2000000, implicitDefEqProofs := false}) only [go_sem, ↓reduceIte, Nat.reduceEqDiff, Nat.reduceAdd, Nat.reduceMul, Nat.reduceLeDiff, Nat.reduceLT, Nat.reduceSub, IntWalk.iteOmega, IntWalk.toNatUp, reduceCtorEq, Int.reduceLE, Int.reduceLT, Int.reduceToNat, Int.reduceNeg]
    first | exact ⟨OBs.nil _ _ _, Bel.refl _ _⟩ | exact OBs.nil _ _ _
  | some a =>
    simp (config := {contextual := true, maxSteps := 2000000, implicitDefEqProofs := false}) only [go_sem, ↓reduceIte, Nat.reduceEqDiff, Nat.reduceAdd, Nat.reduceMul, Nat.reduceLeDiff, Nat.reduceLT, Nat.reduceSub, IntWalk.iteOmega, IntWalk.toNatUp, reduceCtorEq, Int.reduceLE, Int.reduceLT, Int.reduceToNat, Int.reduceNeg]
    refine append_bytes (E := 5) (B := h.size) tsl29 Tryd.underlying29 tn5 tz5 tb5 (OBs.nil' _ _ _ _) (by simp) (s.bel (Bel.push (Nat.le_refl _) _)) (by simpa using hl) ?_
    intro v' h' ho' hb' _
    simp (config := {contextual := true, maxSteps := 2000000, implicitDefEqProofs := false}) only [go_sem, ↓reduceIte, Nat.reduceEqDiff, Nat.reduceAdd, Nat.reduceMul, Nat.reduceLeDiff, Nat.reduceLT, Nat.reduceSub, IntWalk.iteOmega, IntWalk.toNatUp, reduceCtorEq, Int.reduceLE, Int.reduceLT, Int.reduceToNat, Int.reduceNeg]
    exact ⟨ho', (Bel.push (Nat.le_refl _) _).trans hb'⟩
end Go.Proofs.YtnpacofabdgcdaaDoor
