/- What curve.Shared and curve.Point tell; no condition but those in the statements. -/
import Derived.Test.YtiakfdpmapmifaaFldl
namespace Go.Proofs.Ytiakfdpmapmifaa
open Go Go.V
set_option linter.unusedSimpArgs false
set_option linter.unusedVariables false
set_option maxRecDepth 100000
/-- The error of a secret, a point and what comes out. -/
def shE (k p out : List Nat) : Int := if k.length = 32 ∧ p.length = 32 then (if ∀ x ∈ out, x = 0 then 12 else 0) else 1
def ShRes (B : Nat) (h' : Hp) (v' : Value) (k p out : List Nat) : Prop := ∃ w, v' = .tuple [w, .int .i64 (shE k p out)].toArray ∧ OBs B 5 h' w (if shE k p out = 0 then out else [])
theorem ShRes.mono {B B' : Nat} {h : Hp} {v : Value} {k p out : List Nat} (s : ShRes B h v k p out) (hB : B' ≤ B) : ShRes B' h v k p out := by
  obtain ⟨w, e, o⟩ := s
  exact ⟨w, e, o.mono hB⟩
set_option maxHeartbeats 2000000 in
theorem shared_ok (T : World) (h : Hp) (u v : Value) (kl pl : List Nat) (s : Bs h u kl) (sp : Bs h v pl) :
    CallsH Try.prog T 10 #[u, v] h fun v' h' => ShRes h.size h' v' kl pl (curveF kl pl) ∧ Bel h.size h h' := by
  obtain ⟨p, c, rfl, _⟩ := s.opend
  obtain ⟨q, d, rfl, _⟩ := sp.opend
  refine CallsH.of_code' (args := [_, _]) Try.func10 rfl rfl rfl rfl ?_
  by_cases e1 : kl.length = 32
  · by_cases e2 : pl.length = 32
    · have e1' : ((kl.length : Nat) : Int) = 32 := by omega
      have e2' : ((pl.length : Nat) : Int) = 32 := by omega
      obtain ⟨out, hout⟩ : ∃ out, out = curveF kl pl := ⟨_, rfl⟩
      have lo : out.length = 32 := by rw [hout]; unfold curveF; rw [fby_length]
      simp (config := {maxSteps := 2000000, implicitDefEqProofs := false}) only [go_sem, ↓reduceIte, Nat.reduceEqDiff, Nat.reduceAdd, Nat.reduceMul, Nat.reduceLeDiff, Nat.reduceLT, Nat.reduceSub, IntWalk.iteOmega, IntWalk.toNatUp, reduceCtorEq, false_and, and_false, false_or, or_false, true_or, or_true, not_true_eq_false, not_false_eq_true, Bool.not_true, Bool.not_false, Bool.and_true, Bool.true_and, Bool.and_false, Bool.false_and, Bool.not_eq_true, beq_self_eq_true, Nat.add_zero, Int.reduceLE, Int.reduceLT, Int.reduceToNat, Int.reduceNeg, e1', e2']
      refine (timesC_ok T h _ _ kl pl s sp e1 e2).use ?_
      rintro w g ⟨ow, bw⟩
      rw [← hout] at ow ⊢
      obtain ⟨b, cc, rfl, ho⟩ := ow.bs.open
      have hby := ow.byte
      have hall : shE kl pl out = if ∀ x ∈ out, x = 0 then 12 else 0 := by unfold shE; rw [if_pos ⟨e1, e2⟩]
      simp (config := {maxSteps := 2000000, implicitDefEqProofs := false}) only [go_sem, ↓reduceIte, Nat.reduceEqDiff, Nat.reduceAdd, Nat.reduceMul, Nat.reduceLeDiff, Nat.reduceLT, Nat.reduceSub, IntWalk.iteOmega, IntWalk.toNatUp, reduceCtorEq, false_and, and_false, false_or, or_false, true_or, or_true, not_true_eq_false, not_false_eq_true, Bool.not_true, Bool.not_false, Bool.and_true, Bool.true_and, Bool.and_false, Bool.false_and, Bool.not_eq_true, beq_self_eq_true, Nat.add_zero, Int.reduceLE, Int.reduceLT, Int.reduceToNat, Int.reduceNeg, lo]
      refine VS.loop' (fun F g' => g' = g ∧ F 6 = .slice b 32 cc ∧ F 21 = .slice b 32 cc ∧ F 22 = .int .i64 32 ∧ ∃ i x : Nat, i ≤ 32 ∧ x < 256 ∧ F 23 = .int .i64 i ∧ F 7 = .int .u8 x ∧ (x = 0 ↔ ∀ y ∈ out.take i, y = 0))
        (fun F _ => 32 - (vi (F 23)).toNat) rfl ⟨rfl, rfl, rfl, rfl, 0, 0, by omega, by omega, rfl, rfl, by simp⟩ ?_
      rintro F g' ⟨rfl, f6, f21, f22, i, x, hi, hx, f23, f7, hxi⟩
      by_cases hlt : i < 32
      · have hlt' : (i : Int) < 32 := by omega
        obtain ⟨b1, o1, rfl, hb1, g1⟩ := ho (by intro e; rw [e] at lo; cases lo)
        have g1i := g1 i (by omega)
        have y1 := hby _ (List.getElem_mem (show i < out.length by omega))
        simp (config := {maxSteps := 2000000, implicitDefEqProofs := false}) only [go_sem, ↓reduceIte, Nat.reduceEqDiff, Nat.reduceAdd, Nat.reduceMul, Nat.reduceLeDiff, Nat.reduceLT, Nat.reduceSub, IntWalk.iteOmega, IntWalk.toNatUp, reduceCtorEq, false_and, and_false, false_or, or_false, true_or, or_true, not_true_eq_false, not_false_eq_true, Bool.not_true, Bool.not_false, Bool.and_true, Bool.true_and, Bool.and_false, Bool.false_and, Bool.not_eq_true, beq_self_eq_true, Nat.add_zero, Int.reduceLE, Int.reduceLT, Int.reduceToNat, Int.reduceNeg, f6, f21, f22, f23, f7, hlt', g1i]
        have e3 := or_u8 x (out[i]'(by omega)) hx y1
        rw [e3]
        refine ⟨⟨rfl, f6, f21, f22, i + 1, x ||| (out[i]'(by omega)), hlt, Nat.or_lt_two_pow (n := 8) hx y1, rfl, rfl, ?_⟩, ?_⟩
        · rw [take_snoc out i (by omega), or_zero_iff, hxi, List.forall_mem_append, List.forall_mem_singleton]
        · show 32 - ((i : Int) + 1).toNat < 32 - ((i : Int)).toNat
          omega
      · have hie : i = 32 := by omega
        subst hie
        rw [List.take_of_length_le (by omega)] at hxi
        by_cases ex : x = 0
        · have ha : shE kl pl out = 12 := by rw [hall, if_pos (hxi.1 ex)]
          subst ex
          simp (config := {maxSteps := 2000000, implicitDefEqProofs := false}) only [go_sem, ↓reduceIte, Nat.reduceEqDiff, Nat.reduceAdd, Nat.reduceMul, Nat.reduceLeDiff, Nat.reduceLT, Nat.reduceSub, IntWalk.iteOmega, IntWalk.toNatUp, reduceCtorEq, false_and, and_false, false_or, or_false, true_or, or_true, not_true_eq_false, not_false_eq_true, Bool.not_true, Bool.not_false, Bool.and_true, Bool.true_and, Bool.and_false, Bool.false_and, Bool.not_eq_true, beq_self_eq_true, Nat.add_zero, Int.reduceLE, Int.reduceLT, Int.reduceToNat, Int.reduceNeg, f6, f21, f22, f23, f7]
          exact ⟨⟨_, by rw [ha], by rw [ha]; exact OBs.nil _ _ _⟩, bw⟩
        · have ha : shE kl pl out = 0 := by rw [hall, if_neg (fun e => ex (hxi.2 e))]
          have ex' : ¬ (x : Int) = 0 := by omega
          simp (config := {maxSteps := 2000000, implicitDefEqProofs := false}) only [go_sem, ↓reduceIte, Nat.reduceEqDiff, Nat.reduceAdd, Nat.reduceMul, Nat.reduceLeDiff, Nat.reduceLT, Nat.reduceSub, IntWalk.iteOmega, IntWalk.toNatUp, reduceCtorEq, false_and, and_false, false_or, or_false, true_or, or_true, not_true_eq_false, not_false_eq_true, Bool.not_true, Bool.not_false, Bool.and_true, Bool.true_and, Bool.and_false, Bool.false_and, Bool.not_eq_true, beq_self_eq_true, Nat.add_zero, Int.reduceLE, Int.reduceLT, Int.reduceToNat, Int.reduceNeg, f6, f21, f22, f23, f7, ex']
          rw [lo] at ow
          exact ⟨⟨_, by rw [ha], by rw [ha]; exact ow⟩, bw⟩
    · have e1' : ((kl.length : Nat) : Int) = 32 := by omega
      have e2' : ¬ ((pl.length : Nat) : Int) = 32 := by omega
      have ha : ∀ out, shE kl pl out = 1 := fun out => by unfold shE; rw [if_neg (fun e => e2 e.2)]
      simp (config := {maxSteps := 2000000, implicitDefEqProofs := false}) only [go_sem, ↓reduceIte, Nat.reduceEqDiff, Nat.reduceAdd, Nat.reduceMul, Nat.reduceLeDiff, Nat.reduceLT, Nat.reduceSub, IntWalk.iteOmega, IntWalk.toNatUp, reduceCtorEq, false_and, and_false, false_or, or_false, true_or, or_true, not_true_eq_false, not_false_eq_true, Bool.not_true, Bool.not_false, Bool.and_true, Bool.true_and, Bool.and_false, Bool.false_and, Bool.not_eq_true, beq_self_eq_true, Nat.add_zero, Int.reduceLE, Int.reduceLT, Int.reduceToNat, Int.reduceNeg, e1', e2']
      exact ⟨_, by rw [ha], by rw [ha]; exact OBs.nil _ _ _⟩
  · have e1' : ¬ ((kl.length : Nat) : Int) = 32 := by omega
    have ha : ∀ out, shE kl pl out = 1 := fun out => by unfold shE; rw [if_neg (fun e => e1 e.1)]
    simp (config := {maxSteps := 2000000, implicitDefEqProofs := false}) only [go_sem, ↓reduceIte, Nat.reduceEqDiff, Nat.reduceAdd, Nat.reduceMul, Nat.reduceLeDiff, Nat.reduceLT, Nat.reduceSub, IntWalk.iteOmega, IntWalk.toNatUp, reduceCtorEq, false_and, and_false, false_or, or_false, true_or, or_true, not_true_eq_false, not_false_eq_true, Bool.not_true, Bool.not_false, Bool.and_true, Bool.true_and, Bool.and_false, Bool.false_and, Bool.not_eq_true, beq_self_eq_true, Nat.add_zero, Int.reduceLE, Int.reduceLT, Int.reduceToNat, Int.reduceNeg, e1']
    exact ⟨_, by rw [ha], by rw [ha]; exact OBs.nil _ _ _⟩
def base9 : List Nat := 9 :: List.replicate 31 0
theorem point_ok (T : World) (h : Hp) (u : Value) (kl : List Nat) (s : Bs h u kl) :
    CallsH Try.prog T 14 #[u] h fun v' h' => ShRes h.size h' v' kl base9 (curveF kl base9) ∧ Bel h.size h h' := by
  obtain ⟨p, c, rfl, _⟩ := s.opend
  refine CallsH.of_code2 (args := [_]) Try.func14 rfl rfl rfl rfl ?_
  have e9 : (zrep 32 [Value.int .u8 0]).set 0 (Value.int .u8 9) = base9.map bv := by rfl
  have ez : (zrep 32 [Value.int .u8 0]).length = 32 := by rfl
  obtain ⟨g, hg⟩ : ∃ g : Hp, g = h.push (.cells (base9.map bv).toArray 5) := ⟨_, rfl⟩
  have bg : Bel h.size h g := by rw [hg]; exact Bel.push (Nat.le_refl _) _
  have og : OBs h.size 5 g (.slice (some ⟨h.size, 0, none⟩) 32 32) base9 := by rw [hg]; exact OBs.made (by decide) (Nat.le_refl _)
  have eg : h.push (.cells (base9.map bv).toArray 5) = g := hg.symm
  simp (config := {maxSteps := 2000000, implicitDefEqProofs := false}) only [go_sem, ↓reduceIte, Nat.reduceEqDiff, Nat.reduceAdd, Nat.reduceMul, Nat.reduceLeDiff, Nat.reduceLT, Nat.reduceSub, IntWalk.iteOmega, IntWalk.toNatUp, reduceCtorEq, false_and, and_false, false_or, or_false, true_or, or_true, not_true_eq_false, not_false_eq_true, Bool.not_true, Bool.not_false, Bool.and_true, Bool.true_and, Bool.and_false, Bool.false_and, Bool.not_eq_true, beq_self_eq_true, Nat.add_zero, Int.reduceLE, Int.reduceLT, Int.reduceToNat, Int.reduceNeg, ez, e9, eg]
  refine (shared_ok T g _ _ kl base9 (s.bel bg) og.bs).use ?_
  rintro _ g2 ⟨⟨w, rfl, ow⟩, b2⟩
  have B2 := bg.trans (b2.mono bg.size)
  obtain ⟨e, he⟩ : ∃ e, e = shE kl base9 (curveF kl base9) := ⟨_, rfl⟩
  rw [← he] at ow
  have hfin : ShRes h.size g2 (.tuple [w, .int .i64 e].toArray) kl base9 (curveF kl base9) := ⟨w, by rw [← he], by rw [← he]; exact ow.mono bg.size⟩
  clear hg
  rw [← he]
  simp (config := {maxSteps := 2000000, implicitDefEqProofs := false}) only [go_sem, ↓reduceIte, Nat.reduceEqDiff, Nat.reduceAdd, Nat.reduceMul, Nat.reduceLeDiff, Nat.reduceLT, Nat.reduceSub, IntWalk.iteOmega, IntWalk.toNatUp, reduceCtorEq, false_and, and_false, false_or, or_false, true_or, or_true, not_true_eq_false, not_false_eq_true, Bool.not_true, Bool.not_false, Bool.and_true, Bool.true_and, Bool.and_false, Bool.false_and, Bool.not_eq_true, beq_self_eq_true, Nat.add_zero, Int.reduceLE, Int.reduceLT, Int.reduceToNat, Int.reduceNeg]
  exact ⟨hfin, B2⟩
end Go.Proofs.Ytiakfdpmapmifaa
