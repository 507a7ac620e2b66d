/- LinesChecks holds: lines.Check answers what the document says, at every argument; without any condition. -/
import Derived.Test.YtjgbajgmndkfjaaActs
namespace Go.Proofs.Ytjgbajgmndkfjaa
open Go Go.V
set_option linter.unusedSimpArgs false
set_option linter.unusedVariables false
set_option maxRecDepth 100000
def hasNode (k : Int) : Prop := k = 1 ∨ k = 2 ∨ k = 3 ∨ k = 9 ∨ k = 8
def hasAt (k : Int) : Prop := 4 ≤ k ∧ k ≤ 6
instance (k : Int) : Decidable (hasNode k) := by unfold hasNode; infer_instance
instance (k : Int) : Decidable (hasAt k) := by unfold hasAt; infer_instance
def actErr (k n a b : Int) (len : Nat) : Int :=
  if ¬ (1 ≤ k ∧ k ≤ 9) then 4 else
  if (hasNode k ∧ ¬ (0 ≤ n ∧ n ≤ 4)) ∨ (hasAt k ∧ ¬ (0 ≤ a ∧ a ≤ 1048576)) ∨ (k = 8 ∧ ¬ (0 ≤ b ∧ b ≤ 100000)) then 2 else
  if 2000 < len then 1 else
  if (¬ hasNode k ∧ n ≠ 0) ∨ (¬ hasAt k ∧ a ≠ 0) ∨ (k ≠ 8 ∧ b ≠ 0) ∨ (k ≠ 1 ∧ 0 < len) then 3 else 0
def actVal (k n a b : Int) (p : Nat) : Int := [k, n, a, b].getD p 0
def slotOk (k n a b : Int) (x : Nat × Int) : Prop := 0 ≤ actVal k n a b x.1 ∧ actVal k n a b x.1 ≤ x.2
theorem slots_small {k : Int} : ∀ x ∈ slotsOf k, x.1 < 4 ∧ 0 < x.1 := by
  intro x hx
  unfold slotsOf at hx
  repeat' split at hx
  all_goals simp at hx
  all_goals rcases hx with rfl | rfl <;> simp
theorem slots_len (k : Int) : (slotsOf k).length ≤ 2 := by
  unfold slotsOf
  repeat' split
  all_goals simp
theorem slots_bad {k n a b : Int} {len : Nat} (h1 : 1 ≤ k ∧ k ≤ 9) {x : Nat × Int} (hx : x ∈ slotsOf k) (hb : ¬ slotOk k n a b x) : actErr k n a b len = 2 := by
  unfold actErr
  rw [if_neg (by omega), if_pos]
  unfold hasNode hasAt
  unfold slotsOf at hx
  unfold slotOk actVal at hb
  split at hx
  · simp at hx; subst hx; simp at hb; left; omega
  · split at hx
    · simp at hx; subst hx; simp at hb; right; left; omega
    · split at hx
      · simp at hx
        rcases hx with rfl | rfl
        · simp at hb; left; omega
        · simp at hb; right; right; omega
      · cases hx
theorem slots_good {k n a b : Int} (hg : ∀ x ∈ slotsOf k, slotOk k n a b x) : ¬ ((hasNode k ∧ ¬ (0 ≤ n ∧ n ≤ 4)) ∨ (hasAt k ∧ ¬ (0 ≤ a ∧ a ≤ 1048576)) ∨ (k = 8 ∧ ¬ (0 ≤ b ∧ b ≤ 100000))) := by
  unfold hasNode hasAt
  unfold slotsOf at hg
  split at hg
  · have := hg (1, 4) (by simp); simp [slotOk, actVal] at this; omega
  · split at hg
    · have := hg (2, 1048576) (by simp); simp [slotOk, actVal] at this; omega
    · split at hg
      · have := hg (1, 4) (by simp); have h2 := hg (3, 100000) (by simp); simp [slotOk, actVal] at this h2; omega
      · omega
def zeroed (xs : List (Nat × Int)) (cs : List Value) : List Value := xs.foldl (fun cs x => cs.set x.1 (.int .i64 0)) cs
theorem zeroed_snoc (xs : List (Nat × Int)) (x : Nat × Int) (cs : List Value) : zeroed (xs ++ [x]) cs = (zeroed xs cs).set x.1 (.int .i64 0) := by simp [zeroed]
theorem zeroed_length (xs : List (Nat × Int)) : ∀ cs, (zeroed xs cs).length = cs.length := by
  induction xs with
  | nil => intro cs; rfl
  | cons x xs ih => intro cs; simp only [zeroed, List.foldl_cons] at *; rw [ih]; simp
theorem zeroed_all {k n a b : Int} {d : Value} (h1 : 1 ≤ k ∧ k ≤ 9) : zeroed (slotsOf k) (actC k n a b d) = actC k (if hasNode k then 0 else n) (if hasAt k then 0 else a) (if k = 8 then 0 else b) d := by
  unfold slotsOf
  split
  · rw [if_pos (by unfold hasNode; omega), if_neg (by unfold hasAt; omega), if_neg (by omega)]; rfl
  · split
    · rw [if_neg (by unfold hasNode; omega), if_pos (by unfold hasAt; omega), if_neg (by omega)]; rfl
    · split
      · rw [if_pos (by unfold hasNode; omega), if_neg (by unfold hasAt; omega)]; rfl
      · rw [if_neg (by unfold hasNode; omega), if_neg (by unfold hasAt; omega)]; rfl
theorem actVal_nth (k n a b : Int) (d : Value) (p : Nat) (hp : p < 4) : nth (actC k n a b d) p = some (.int .i64 (actVal k n a b p)) := by
  rcases p with _ | _ | _ | _ | p <;> first | rfl | omega
theorem linesCheck_ok (T : World) (h : Hp) (k n a b : Int) (p : Option Addr) (len c : Nat) :
    CallsH Try.prog T 48 #[.agg (actC k n a b (.slice p len c)).toArray] h fun v' h' => v' = .int .i64 (actErr k n a b len) ∧ Bel h.size h h' := by
  refine CallsH.of_code' (args := [_]) Try.func48 rfl rfl rfl rfl ?_
  unfold actC
  simp (config := {contextual := true, maxSteps := 2000000, implicitDefEqProofs := false}) only [go_sem, ↓reduceIte, Nat.reduceEqDiff, Nat.reduceAdd, Nat.reduceMul, Nat.reduceLeDiff, Nat.reduceLT, Nat.reduceSub, IntWalk.iteOmega, IntWalk.toNatUp, reduceCtorEq, false_and, and_false, false_or, or_false, true_or, or_true, not_true_eq_false, not_false_eq_true, Bool.not_true, Bool.not_false, Bool.and_true, Bool.true_and, Bool.and_false, Bool.false_and, Bool.not_eq_true, beq_self_eq_true, Nat.add_zero, Int.reduceLE, Int.reduceLT, Int.reduceToNat, Int.reduceNeg]
  refine (numbers2_ok T _ h.size k n a b (.slice p len c) get_push_last).use ?_
  rintro _ h1 ⟨w, rfl, hw, b1⟩
  have hlen := slots_len k
  by_cases hk : 1 ≤ k ∧ k ≤ 9
  · obtain ⟨pw, cw, rfl, hcs⟩ := Ots.openB (enc := slotV h.size) (n := 2) (fun _ => rfl) (by decide) hw
    have x0 : h1[h.size]? = some (.cells (actC k n a b (.slice p len c)).toArray 61) := b1.get (by simp) get_push_last
    have z1 := lt_of_get x0
    have hB1 : Bel h.size h h1 := ((Bel.refl h.size h).add _).trans (b1.mono (by simp))
    simp (config := {contextual := true, maxSteps := 2000000, implicitDefEqProofs := false}) only [go_sem, ↓reduceIte, Nat.reduceEqDiff, Nat.reduceAdd, Nat.reduceMul, Nat.reduceLeDiff, Nat.reduceLT, Nat.reduceSub, IntWalk.iteOmega, IntWalk.toNatUp, reduceCtorEq, false_and, and_false, false_or, or_false, true_or, or_true, not_true_eq_false, not_false_eq_true, Bool.not_true, Bool.not_false, Bool.and_true, Bool.true_and, Bool.and_false, Bool.false_and, Bool.not_eq_true, beq_self_eq_true, Nat.add_zero, Int.reduceLE, Int.reduceLT, Int.reduceToNat, Int.reduceNeg, hk]
    refine VS.loop' (fun F g => Bel h1.size h1 g ∧ F 1 = .pointer (some ⟨h.size, 0, none⟩) ∧ F 3 = .slice pw (slotsOf k).length cw ∧ F 15 = .slice pw (slotsOf k).length cw ∧ F 16 = .int .i64 (slotsOf k).length ∧ ∃ i : Nat, i ≤ (slotsOf k).length ∧ F 17 = .int .i64 i ∧ ∀ x ∈ (slotsOf k).take i, slotOk k n a b x)
      (fun F _ => (slotsOf k).length - (vi (F 17)).toNat) rfl ⟨Bel.refl _ _, rfl, rfl, rfl, rfl, 0, by omega, rfl, fun x hx => by cases hx⟩ ?_
    rintro F g ⟨hg, f1, f3, f15, f16, i, hi, f17, hall⟩
    have hgs := hg.size
    by_cases hlt : i < (slotsOf k).length
    · have hlt' : (i : Int) < (slotsOf k).length := by omega
      obtain ⟨bb, oo, rfl, hBb, hbb, hcs⟩ := hcs (by intro e; rw [e] at hlt; simp at hlt)
      have hx := List.getElem_mem hlt
      have hsm := slots_small _ hx
      have r1 := ((hcs i hlt).bel hg hbb).rd (by simp [slotV]) (m := 2) rfl
      obtain ⟨x, hxe⟩ : ∃ x, x = (slotsOf k)[i] := ⟨_, rfl⟩
      rw [← hxe] at hx hsm r1
      have v1 : hc g ⟨h.size, x.1, none⟩ = some (.int .i64 (actVal k n a b x.1)) := by
        rw [hg.hc z1, hc_last x0, actVal_nth _ _ _ _ _ _ hsm.1]
      unfold slotV at r1
      simp (config := {contextual := true, maxSteps := 2000000, implicitDefEqProofs := false}) only [go_sem, ↓reduceIte, Nat.reduceEqDiff, Nat.reduceAdd, Nat.reduceMul, Nat.reduceLeDiff, Nat.reduceLT, Nat.reduceSub, IntWalk.iteOmega, IntWalk.toNatUp, reduceCtorEq, false_and, and_false, false_or, or_false, true_or, or_true, not_true_eq_false, not_false_eq_true, Bool.not_true, Bool.not_false, Bool.and_true, Bool.true_and, Bool.and_false, Bool.false_and, Bool.not_eq_true, beq_self_eq_true, Nat.add_zero, Int.reduceLE, Int.reduceLT, Int.reduceToNat, Int.reduceNeg, f1, f15, f16, f17, hlt', r1]
      refine VS.q mixed (by kernel_rfl) ?_
      by_cases c1 : actVal k n a b x.1 < 0
      · have e := slots_bad (len := len) hk hx (n := n) (a := a) (b := b) (by unfold slotOk; omega)
        simp (config := {contextual := true, maxSteps := 2000000, implicitDefEqProofs := false}) only [go_sem, ↓reduceIte, Nat.reduceEqDiff, Nat.reduceAdd, Nat.reduceMul, Nat.reduceLeDiff, Nat.reduceLT, Nat.reduceSub, IntWalk.iteOmega, IntWalk.toNatUp, reduceCtorEq, false_and, and_false, false_or, or_false, true_or, or_true, not_true_eq_false, not_false_eq_true, Bool.not_true, Bool.not_false, Bool.and_true, Bool.true_and, Bool.and_false, Bool.false_and, Bool.not_eq_true, beq_self_eq_true, Nat.add_zero, Int.reduceLE, Int.reduceLT, Int.reduceToNat, Int.reduceNeg, v1, c1, e]
        exact hB1.trans ((hg.mono (by omega)).addP (by omega) _)
      · by_cases c2 : x.2 < actVal k n a b x.1
        · have e := slots_bad (len := len) hk hx (n := n) (a := a) (b := b) (by unfold slotOk; omega)
          simp (config := {contextual := true, maxSteps := 2000000, implicitDefEqProofs := false}) only [go_sem, ↓reduceIte, Nat.reduceEqDiff, Nat.reduceAdd, Nat.reduceMul, Nat.reduceLeDiff, Nat.reduceLT, Nat.reduceSub, IntWalk.iteOmega, IntWalk.toNatUp, reduceCtorEq, false_and, and_false, false_or, or_false, true_or, or_true, not_true_eq_false, not_false_eq_true, Bool.not_true, Bool.not_false, Bool.and_true, Bool.true_and, Bool.and_false, Bool.false_and, Bool.not_eq_true, beq_self_eq_true, Nat.add_zero, Int.reduceLE, Int.reduceLT, Int.reduceToNat, Int.reduceNeg, v1, c1, c2, e]
          exact hB1.trans ((hg.mono (by omega)).addP (by omega) _)
        · simp (config := {contextual := true, maxSteps := 2000000, implicitDefEqProofs := false}) only [go_sem, ↓reduceIte, Nat.reduceEqDiff, Nat.reduceAdd, Nat.reduceMul, Nat.reduceLeDiff, Nat.reduceLT, Nat.reduceSub, IntWalk.iteOmega, IntWalk.toNatUp, reduceCtorEq, false_and, and_false, false_or, or_false, true_or, or_true, not_true_eq_false, not_false_eq_true, Bool.not_true, Bool.not_false, Bool.and_true, Bool.true_and, Bool.and_false, Bool.false_and, Bool.not_eq_true, beq_self_eq_true, Nat.add_zero, Int.reduceLE, Int.reduceLT, Int.reduceToNat, Int.reduceNeg, f1, f3, f15, f16, f17, v1, c1, c2]
          refine ⟨⟨hg.addP (by omega) _, f1, f3, f15, f16, i + 1, by omega, rfl, fun y hy => ?_⟩, ?_⟩
          · rw [take_snoc _ i hlt] at hy
            rcases List.mem_append.1 hy with hy | hy
            · exact hall y hy
            · simp at hy; rw [hy, ← hxe]; unfold slotOk; omega
          · simp only [vi, updo_some, ↓reduceIte, f17]; omega
    · have hge : ¬ (i : Int) < (slotsOf k).length := by omega
      obtain rfl : i = (slotsOf k).length := by omega
      rw [List.take_length] at hall
      have good := slots_good hall
      have x0g := hg.get z1 x0
      have y4 : hc g ⟨h.size, 4, none⟩ = some (.slice p len c) := by rw [hc_last x0g]; rfl
      have hBg : Bel h.size h g := hB1.trans (hg.mono (by omega))
      by_cases c1 : 2000 < len
      · have c1' : 2000 < (len : Int) := by omega
        have e : actErr k n a b len = 1 := by unfold actErr; rw [if_neg (by omega), if_neg good, if_pos c1]
        simp (config := {contextual := true, maxSteps := 2000000, implicitDefEqProofs := false}) only [go_sem, ↓reduceIte, Nat.reduceEqDiff, Nat.reduceAdd, Nat.reduceMul, Nat.reduceLeDiff, Nat.reduceLT, Nat.reduceSub, IntWalk.iteOmega, IntWalk.toNatUp, reduceCtorEq, false_and, and_false, false_or, or_false, true_or, or_true, not_true_eq_false, not_false_eq_true, Bool.not_true, Bool.not_false, Bool.and_true, Bool.true_and, Bool.and_false, Bool.false_and, Bool.not_eq_true, beq_self_eq_true, Nat.add_zero, Int.reduceLE, Int.reduceLT, Int.reduceToNat, Int.reduceNeg, f1, f3, f15, f16, f17, hge, y4, c1', e, hBg]
      · have c1' : ¬ 2000 < (len : Int) := by omega
        simp (config := {contextual := true, maxSteps := 2000000, implicitDefEqProofs := false}) only [go_sem, ↓reduceIte, Nat.reduceEqDiff, Nat.reduceAdd, Nat.reduceMul, Nat.reduceLeDiff, Nat.reduceLT, Nat.reduceSub, IntWalk.iteOmega, IntWalk.toNatUp, reduceCtorEq, false_and, and_false, false_or, or_false, true_or, or_true, not_true_eq_false, not_false_eq_true, Bool.not_true, Bool.not_false, Bool.and_true, Bool.true_and, Bool.and_false, Bool.false_and, Bool.not_eq_true, beq_self_eq_true, Nat.add_zero, Int.reduceLE, Int.reduceLT, Int.reduceToNat, Int.reduceNeg, f1, f3, f15, f16, f17, hge, y4, c1']
        have xg : g[h.size]? = some (.cells (zeroed ((slotsOf k).take 0) (actC k n a b (.slice p len c))).toArray 61) := x0g
        clear y4 hall hi hlt hge
        refine VS.loop' (fun F g' => Bel h.size h g' ∧ (∀ q, q ≠ h.size → q < h1.size → g'[q]? = h1[q]?) ∧ h1.size ≤ g'.size ∧ F 1 = .pointer (some ⟨h.size, 0, none⟩) ∧ F 40 = .slice pw (slotsOf k).length cw ∧ F 41 = .int .i64 (slotsOf k).length ∧ ∃ i : Nat, i ≤ (slotsOf k).length ∧ F 42 = .int .i64 i ∧ g'[h.size]? = some (.cells (zeroed ((slotsOf k).take i) (actC k n a b (.slice p len c))).toArray 61))
          (fun F _ => (slotsOf k).length - (vi (F 42)).toNat) rfl ⟨hBg, fun q _ hq => hg.block q hq, hgs, f1, rfl, rfl, 0, Nat.zero_le _, rfl, xg⟩ ?_
        clear xg x0g hBg hgs hg g f1 f3 f15 f16 f17 F
        rintro F g ⟨hBg, hoth, hgs, f1, f40, f41, i, hi, f42, xg⟩
        by_cases hlt : i < (slotsOf k).length
        · have hlt' : (i : Int) < (slotsOf k).length := by omega
          obtain ⟨bb, oo, rfl, hBb, hbb, hcs⟩ := hcs (by intro e; rw [e] at hlt; simp at hlt)
          have hx := List.getElem_mem hlt
          have hsm := slots_small _ hx
          have r1 := (hcs i hlt).rd (by simp [slotV]) (m := 2) rfl
          have hbbne : bb ≠ h.size := by simp at hBb; omega
          obtain ⟨x, hxe⟩ : ∃ x, x = (slotsOf k)[i] := ⟨_, rfl⟩
          rw [← hxe] at hx hsm r1
          have r2 : rd g ⟨bb, oo + i * 2, none⟩ 2 = some (slotV h.size x) := by
            rw [← r1]; unfold rd; rw [hoth _ hbbne hbb]
          have hzl : (zeroed ((slotsOf k).take i) (actC k n a b (.slice p len c))).length = 5 := by rw [zeroed_length]; rfl
          have zg := lt_of_get xg
          have w1 := wr1_get xg x.1 (.int .i64 0)
          rw [if_pos ⟨by rw [hzl]; omega, rfl⟩] at w1
          unfold slotV at r2
          simp (config := {contextual := true, maxSteps := 2000000, implicitDefEqProofs := false}) only [go_sem, ↓reduceIte, Nat.reduceEqDiff, Nat.reduceAdd, Nat.reduceMul, Nat.reduceLeDiff, Nat.reduceLT, Nat.reduceSub, IntWalk.iteOmega, IntWalk.toNatUp, reduceCtorEq, false_and, and_false, false_or, or_false, true_or, or_true, not_true_eq_false, not_false_eq_true, Bool.not_true, Bool.not_false, Bool.and_true, Bool.true_and, Bool.and_false, Bool.false_and, Bool.not_eq_true, beq_self_eq_true, Nat.add_zero, Int.reduceLE, Int.reduceLT, Int.reduceToNat, Int.reduceNeg, f1, f40, f41, f42, hlt', r2]
          rw [w1]
          simp (config := {contextual := true, maxSteps := 2000000, implicitDefEqProofs := false}) only [go_sem, ↓reduceIte, Nat.reduceEqDiff, Nat.reduceAdd, Nat.reduceMul, Nat.reduceLeDiff, Nat.reduceLT, Nat.reduceSub, IntWalk.iteOmega, IntWalk.toNatUp, reduceCtorEq, false_and, and_false, false_or, or_false, true_or, or_true, not_true_eq_false, not_false_eq_true, Bool.not_true, Bool.not_false, Bool.and_true, Bool.true_and, Bool.and_false, Bool.false_and, Bool.not_eq_true, beq_self_eq_true, Nat.add_zero, Int.reduceLE, Int.reduceLT, Int.reduceToNat, Int.reduceNeg, f42]
          refine ⟨⟨(hBg.addSet (Nat.le_refl _) _).addP (by simp; omega) _, fun q hq hq1 => ?_, by simp; omega, f1, f40, f41, i + 1, by omega, rfl, ?_⟩, ?_⟩
          · rw [Array.getElem?_push, if_neg (by simp; omega), Array.getElem?_setIfInBounds, if_neg (fun e => hq e.symm)]; exact hoth q hq hq1
          · rw [Array.getElem?_push, if_neg (by simp; omega), Array.getElem?_setIfInBounds, if_pos rfl, if_pos zg, take_snoc _ i hlt, zeroed_snoc, ← hxe]
          · simp only [vi, updo_some, ↓reduceIte, f42]; omega
        · have hge : ¬ (i : Int) < (slotsOf k).length := by omega
          obtain rfl : i = (slotsOf k).length := by omega
          rw [List.take_length, zeroed_all hk] at xg
          have e : actErr k n a b len = if (¬ hasNode k ∧ n ≠ 0) ∨ (¬ hasAt k ∧ a ≠ 0) ∨ (k ≠ 8 ∧ b ≠ 0) ∨ (k ≠ 1 ∧ 0 < len) then 3 else 0 := by unfold actErr; rw [if_neg (by omega), if_neg good, if_neg c1]
          rw [e]
          clear e good hcs hw
          obtain ⟨n', hn'⟩ : ∃ n', n' = if hasNode k then 0 else n := ⟨_, rfl⟩
          obtain ⟨a', ha'⟩ : ∃ a', a' = if hasAt k then 0 else a := ⟨_, rfl⟩
          obtain ⟨b', hb'⟩ : ∃ b', b' = if k = 8 then 0 else b := ⟨_, rfl⟩
          rw [← hn', ← ha', ← hb'] at xg
          have y0 : hc g ⟨h.size, 0, none⟩ = some (.int .i64 k) := by rw [hc_last xg]; rfl
          have y1 : hc g ⟨h.size, 1, none⟩ = some (.int .i64 n') := by rw [hc_last xg]; rfl
          have y2 : hc g ⟨h.size, 2, none⟩ = some (.int .i64 a') := by rw [hc_last xg]; rfl
          have y3 : hc g ⟨h.size, 3, none⟩ = some (.int .i64 b') := by rw [hc_last xg]; rfl
          have y4 : hc g ⟨h.size, 4, none⟩ = some (.slice p len c) := by rw [hc_last xg]; rfl
          have en : (¬ hasNode k ∧ n ≠ 0) ↔ n' ≠ 0 := by rw [hn']; by_cases q : hasNode k <;> simp [q]
          have ea : (¬ hasAt k ∧ a ≠ 0) ↔ a' ≠ 0 := by rw [ha']; by_cases q : hasAt k <;> simp [q]
          have eb : (k ≠ 8 ∧ b ≠ 0) ↔ b' ≠ 0 := by rw [hb']; by_cases q : k = 8 <;> simp [q]
          simp only [en, ea, eb]
          by_cases q1 : n' = 0
          · by_cases q2 : a' = 0
            · by_cases q3 : b' = 0
              · by_cases q4 : k = 1
                · simp (config := {contextual := true, maxSteps := 2000000, implicitDefEqProofs := false}) only [go_sem, ↓reduceIte, Nat.reduceEqDiff, Nat.reduceAdd, Nat.reduceMul, Nat.reduceLeDiff, Nat.reduceLT, Nat.reduceSub, IntWalk.iteOmega, IntWalk.toNatUp, reduceCtorEq, false_and, and_false, false_or, or_false, true_or, or_true, not_true_eq_false, not_false_eq_true, Bool.not_true, Bool.not_false, Bool.and_true, Bool.true_and, Bool.and_false, Bool.false_and, Bool.not_eq_true, beq_self_eq_true, Nat.add_zero, Int.reduceLE, Int.reduceLT, Int.reduceToNat, Int.reduceNeg, f1, f40, f41, f42, hge, y0, y1, y2, y3, q1, q2, q3, q4, hBg]
                · by_cases q5 : 0 < len
                  · have q5' : 0 < (len : Int) := by omega
                    simp (config := {contextual := true, maxSteps := 2000000, implicitDefEqProofs := false}) only [go_sem, ↓reduceIte, Nat.reduceEqDiff, Nat.reduceAdd, Nat.reduceMul, Nat.reduceLeDiff, Nat.reduceLT, Nat.reduceSub, IntWalk.iteOmega, IntWalk.toNatUp, reduceCtorEq, false_and, and_false, false_or, or_false, true_or, or_true, not_true_eq_false, not_false_eq_true, Bool.not_true, Bool.not_false, Bool.and_true, Bool.true_and, Bool.and_false, Bool.false_and, Bool.not_eq_true, beq_self_eq_true, Nat.add_zero, Int.reduceLE, Int.reduceLT, Int.reduceToNat, Int.reduceNeg, f1, f40, f41, f42, hge, y0, y1, y2, y3, y4, q1, q2, q3, q4, q5, q5', hBg]
                  · have q5' : ¬ 0 < (len : Int) := by omega
                    simp (config := {contextual := true, maxSteps := 2000000, implicitDefEqProofs := false}) only [go_sem, ↓reduceIte, Nat.reduceEqDiff, Nat.reduceAdd, Nat.reduceMul, Nat.reduceLeDiff, Nat.reduceLT, Nat.reduceSub, IntWalk.iteOmega, IntWalk.toNatUp, reduceCtorEq, false_and, and_false, false_or, or_false, true_or, or_true, not_true_eq_false, not_false_eq_true, Bool.not_true, Bool.not_false, Bool.and_true, Bool.true_and, Bool.and_false, Bool.false_and, Bool.not_eq_true, beq_self_eq_true, Nat.add_zero, Int.reduceLE, Int.reduceLT, Int.reduceToNat, Int.reduceNeg, f1, f40, f41, f42, hge, y0, y1, y2, y3, y4, q1, q2, q3, q4, q5, q5', hBg]
              · simp (config := {contextual := true, maxSteps := 2000000, implicitDefEqProofs := false}) only [go_sem, ↓reduceIte, Nat.reduceEqDiff, Nat.reduceAdd, Nat.reduceMul, Nat.reduceLeDiff, Nat.reduceLT, Nat.reduceSub, IntWalk.iteOmega, IntWalk.toNatUp, reduceCtorEq, false_and, and_false, false_or, or_false, true_or, or_true, not_true_eq_false, not_false_eq_true, Bool.not_true, Bool.not_false, Bool.and_true, Bool.true_and, Bool.and_false, Bool.false_and, Bool.not_eq_true, beq_self_eq_true, Nat.add_zero, Int.reduceLE, Int.reduceLT, Int.reduceToNat, Int.reduceNeg, f1, f40, f41, f42, hge, y0, y1, y2, y3, q1, q2, q3, hBg]
            · simp (config := {contextual := true, maxSteps := 2000000, implicitDefEqProofs := false}) only [go_sem, ↓reduceIte, Nat.reduceEqDiff, Nat.reduceAdd, Nat.reduceMul, Nat.reduceLeDiff, Nat.reduceLT, Nat.reduceSub, IntWalk.iteOmega, IntWalk.toNatUp, reduceCtorEq, false_and, and_false, false_or, or_false, true_or, or_true, not_true_eq_false, not_false_eq_true, Bool.not_true, Bool.not_false, Bool.and_true, Bool.true_and, Bool.and_false, Bool.false_and, Bool.not_eq_true, beq_self_eq_true, Nat.add_zero, Int.reduceLE, Int.reduceLT, Int.reduceToNat, Int.reduceNeg, f1, f40, f41, f42, hge, y0, y1, y2, q1, q2, hBg]
          · simp (config := {contextual := true, maxSteps := 2000000, implicitDefEqProofs := false}) only [go_sem, ↓reduceIte, Nat.reduceEqDiff, Nat.reduceAdd, Nat.reduceMul, Nat.reduceLeDiff, Nat.reduceLT, Nat.reduceSub, IntWalk.iteOmega, IntWalk.toNatUp, reduceCtorEq, false_and, and_false, false_or, or_false, true_or, or_true, not_true_eq_false, not_false_eq_true, Bool.not_true, Bool.not_false, Bool.and_true, Bool.true_and, Bool.and_false, Bool.false_and, Bool.not_eq_true, beq_self_eq_true, Nat.add_zero, Int.reduceLE, Int.reduceLT, Int.reduceToNat, Int.reduceNeg, f1, f40, f41, f42, hge, y0, y1, q1, hBg]
  · have e : actErr k n a b len = 4 := by unfold actErr; rw [if_pos hk]
    simp (config := {contextual := true, maxSteps := 2000000, implicitDefEqProofs := false}) only [go_sem, ↓reduceIte, Nat.reduceEqDiff, Nat.reduceAdd, Nat.reduceMul, Nat.reduceLeDiff, Nat.reduceLT, Nat.reduceSub, IntWalk.iteOmega, IntWalk.toNatUp, reduceCtorEq, false_and, and_false, false_or, or_false, true_or, or_true, not_true_eq_false, not_false_eq_true, Bool.not_true, Bool.not_false, Bool.and_true, Bool.true_and, Bool.and_false, Bool.false_and, Bool.not_eq_true, beq_self_eq_true, Nat.add_zero, Int.reduceLE, Int.reduceLT, Int.reduceToNat, Int.reduceNeg, hk, e]
    exact ((Bel.refl h.size h).add _).trans (b1.mono (by simp))
theorem uses_ok (T : World) (h : Hp) (k : Int) : CallsH Try.prog T 99 #[.int .i64 k] h fun v' h' => v' = .tuple [.bool (decide (hasNode k)), .bool (decide (hasAt k)), .bool (decide (k = 8))].toArray ∧ h' = h := by
  refine CallsH.of_code' (args := [_]) Try.func99 rfl rfl rfl rfl ?_
  by_cases k1 : k = 1
  · subst k1; simp (config := {contextual := true, maxSteps := 2000000, implicitDefEqProofs := false}) only [go_sem, ↓reduceIte, Nat.reduceEqDiff, Nat.reduceAdd, Nat.reduceMul, Nat.reduceLeDiff, Nat.reduceLT, Nat.reduceSub, IntWalk.iteOmega, IntWalk.toNatUp, reduceCtorEq, false_and, and_false, false_or, or_false, true_or, or_true, not_true_eq_false, not_false_eq_true, Bool.not_true, Bool.not_false, Bool.and_true, Bool.true_and, Bool.and_false, Bool.false_and, Bool.not_eq_true, beq_self_eq_true, Nat.add_zero, Int.reduceLE, Int.reduceLT, Int.reduceToNat, Int.reduceNeg]; refine (in_ok T _ _ _ _).pure ?_; simp (config := {contextual := true, maxSteps := 2000000, implicitDefEqProofs := false}) only [go_sem, ↓reduceIte, Nat.reduceEqDiff, Nat.reduceAdd, Nat.reduceMul, Nat.reduceLeDiff, Nat.reduceLT, Nat.reduceSub, IntWalk.iteOmega, IntWalk.toNatUp, reduceCtorEq, false_and, and_false, false_or, or_false, true_or, or_true, not_true_eq_false, not_false_eq_true, Bool.not_true, Bool.not_false, Bool.and_true, Bool.true_and, Bool.and_false, Bool.false_and, Bool.not_eq_true, beq_self_eq_true, Nat.add_zero, Int.reduceLE, Int.reduceLT, Int.reduceToNat, Int.reduceNeg, hasNode, hasAt]
  · by_cases k2 : k = 2
    · subst k2; simp (config := {contextual := true, maxSteps := 2000000, implicitDefEqProofs := false}) only [go_sem, ↓reduceIte, Nat.reduceEqDiff, Nat.reduceAdd, Nat.reduceMul, Nat.reduceLeDiff, Nat.reduceLT, Nat.reduceSub, IntWalk.iteOmega, IntWalk.toNatUp, reduceCtorEq, false_and, and_false, false_or, or_false, true_or, or_true, not_true_eq_false, not_false_eq_true, Bool.not_true, Bool.not_false, Bool.and_true, Bool.true_and, Bool.and_false, Bool.false_and, Bool.not_eq_true, beq_self_eq_true, Nat.add_zero, Int.reduceLE, Int.reduceLT, Int.reduceToNat, Int.reduceNeg]; refine (in_ok T _ _ _ _).pure ?_; simp (config := {contextual := true, maxSteps := 2000000, implicitDefEqProofs := false}) only [go_sem, ↓reduceIte, Nat.reduceEqDiff, Nat.reduceAdd, Nat.reduceMul, Nat.reduceLeDiff, Nat.reduceLT, Nat.reduceSub, IntWalk.iteOmega, IntWalk.toNatUp, reduceCtorEq, false_and, and_false, false_or, or_false, true_or, or_true, not_true_eq_false, not_false_eq_true, Bool.not_true, Bool.not_false, Bool.and_true, Bool.true_and, Bool.and_false, Bool.false_and, Bool.not_eq_true, beq_self_eq_true, Nat.add_zero, Int.reduceLE, Int.reduceLT, Int.reduceToNat, Int.reduceNeg, hasNode, hasAt]
    · by_cases k3 : k = 3
      · subst k3; simp (config := {contextual := true, maxSteps := 2000000, implicitDefEqProofs := false}) only [go_sem, ↓reduceIte, Nat.reduceEqDiff, Nat.reduceAdd, Nat.reduceMul, Nat.reduceLeDiff, Nat.reduceLT, Nat.reduceSub, IntWalk.iteOmega, IntWalk.toNatUp, reduceCtorEq, false_and, and_false, false_or, or_false, true_or, or_true, not_true_eq_false, not_false_eq_true, Bool.not_true, Bool.not_false, Bool.and_true, Bool.true_and, Bool.and_false, Bool.false_and, Bool.not_eq_true, beq_self_eq_true, Nat.add_zero, Int.reduceLE, Int.reduceLT, Int.reduceToNat, Int.reduceNeg]; refine (in_ok T _ _ _ _).pure ?_; simp (config := {contextual := true, maxSteps := 2000000, implicitDefEqProofs := false}) only [go_sem, ↓reduceIte, Nat.reduceEqDiff, Nat.reduceAdd, Nat.reduceMul, Nat.reduceLeDiff, Nat.reduceLT, Nat.reduceSub, IntWalk.iteOmega, IntWalk.toNatUp, reduceCtorEq, false_and, and_false, false_or, or_false, true_or, or_true, not_true_eq_false, not_false_eq_true, Bool.not_true, Bool.not_false, Bool.and_true, Bool.true_and, Bool.and_false, Bool.false_and, Bool.not_eq_true, beq_self_eq_true, Nat.add_zero, Int.reduceLE, Int.reduceLT, Int.reduceToNat, Int.reduceNeg, hasNode, hasAt]
      · by_cases k9 : k = 9
        · subst k9; simp (config := {contextual := true, maxSteps := 2000000, implicitDefEqProofs := false}) only [go_sem, ↓reduceIte, Nat.reduceEqDiff, Nat.reduceAdd, Nat.reduceMul, Nat.reduceLeDiff, Nat.reduceLT, Nat.reduceSub, IntWalk.iteOmega, IntWalk.toNatUp, reduceCtorEq, false_and, and_false, false_or, or_false, true_or, or_true, not_true_eq_false, not_false_eq_true, Bool.not_true, Bool.not_false, Bool.and_true, Bool.true_and, Bool.and_false, Bool.false_and, Bool.not_eq_true, beq_self_eq_true, Nat.add_zero, Int.reduceLE, Int.reduceLT, Int.reduceToNat, Int.reduceNeg]; refine (in_ok T _ _ _ _).pure ?_; simp (config := {contextual := true, maxSteps := 2000000, implicitDefEqProofs := false}) only [go_sem, ↓reduceIte, Nat.reduceEqDiff, Nat.reduceAdd, Nat.reduceMul, Nat.reduceLeDiff, Nat.reduceLT, Nat.reduceSub, IntWalk.iteOmega, IntWalk.toNatUp, reduceCtorEq, false_and, and_false, false_or, or_false, true_or, or_true, not_true_eq_false, not_false_eq_true, Bool.not_true, Bool.not_false, Bool.and_true, Bool.true_and, Bool.and_false, Bool.false_and, Bool.not_eq_true, beq_self_eq_true, Nat.add_zero, Int.reduceLE, Int.reduceLT, Int.reduceToNat, Int.reduceNeg, hasNode, hasAt]
        · by_cases k8 : k = 8
          · subst k8; simp (config := {contextual := true, maxSteps := 2000000, implicitDefEqProofs := false}) only [go_sem, ↓reduceIte, Nat.reduceEqDiff, Nat.reduceAdd, Nat.reduceMul, Nat.reduceLeDiff, Nat.reduceLT, Nat.reduceSub, IntWalk.iteOmega, IntWalk.toNatUp, reduceCtorEq, false_and, and_false, false_or, or_false, true_or, or_true, not_true_eq_false, not_false_eq_true, Bool.not_true, Bool.not_false, Bool.and_true, Bool.true_and, Bool.and_false, Bool.false_and, Bool.not_eq_true, beq_self_eq_true, Nat.add_zero, Int.reduceLE, Int.reduceLT, Int.reduceToNat, Int.reduceNeg]; refine (in_ok T _ _ _ _).pure ?_; simp (config := {contextual := true, maxSteps := 2000000, implicitDefEqProofs := false}) only [go_sem, ↓reduceIte, Nat.reduceEqDiff, Nat.reduceAdd, Nat.reduceMul, Nat.reduceLeDiff, Nat.reduceLT, Nat.reduceSub, IntWalk.iteOmega, IntWalk.toNatUp, reduceCtorEq, false_and, and_false, false_or, or_false, true_or, or_true, not_true_eq_false, not_false_eq_true, Bool.not_true, Bool.not_false, Bool.and_true, Bool.true_and, Bool.and_false, Bool.false_and, Bool.not_eq_true, beq_self_eq_true, Nat.add_zero, Int.reduceLE, Int.reduceLT, Int.reduceToNat, Int.reduceNeg, hasNode, hasAt]
          · simp (config := {contextual := true, maxSteps := 2000000, implicitDefEqProofs := false}) only [go_sem, ↓reduceIte, Nat.reduceEqDiff, Nat.reduceAdd, Nat.reduceMul, Nat.reduceLeDiff, Nat.reduceLT, Nat.reduceSub, IntWalk.iteOmega, IntWalk.toNatUp, reduceCtorEq, false_and, and_false, false_or, or_false, true_or, or_true, not_true_eq_false, not_false_eq_true, Bool.not_true, Bool.not_false, Bool.and_true, Bool.true_and, Bool.and_false, Bool.false_and, Bool.not_eq_true, beq_self_eq_true, Nat.add_zero, Int.reduceLE, Int.reduceLT, Int.reduceToNat, Int.reduceNeg, k1, k2, k3, k9, k8]; refine (in_ok T _ _ _ _).pure ?_; simp (config := {contextual := true, maxSteps := 2000000, implicitDefEqProofs := false}) only [go_sem, ↓reduceIte, Nat.reduceEqDiff, Nat.reduceAdd, Nat.reduceMul, Nat.reduceLeDiff, Nat.reduceLT, Nat.reduceSub, IntWalk.iteOmega, IntWalk.toNatUp, reduceCtorEq, false_and, and_false, false_or, or_false, true_or, or_true, not_true_eq_false, not_false_eq_true, Bool.not_true, Bool.not_false, Bool.and_true, Bool.true_and, Bool.and_false, Bool.false_and, Bool.not_eq_true, beq_self_eq_true, Nat.add_zero, Int.reduceLE, Int.reduceLT, Int.reduceToNat, Int.reduceNeg, hasNode, hasAt, k1, k2, k3, k9, k8]
set_option maxHeartbeats 4000000 in
theorem actFault_ok (T : World) (h : Hp) (k n a b : Int) (p : Option Addr) (len c : Nat) :
    CallsH Try.prog T 49 #[.agg (actC k n a b (.slice p len c)).toArray] h fun v' h' => v' = .int .i64 (actErr k n a b len) ∧ Bel h.size h h' := by
  refine CallsH.of_code' (args := [_]) Try.func49 rfl rfl rfl rfl ?_
  unfold actC actErr
  simp (config := {contextual := true, maxSteps := 2000000, implicitDefEqProofs := false}) only [go_sem, ↓reduceIte, Nat.reduceEqDiff, Nat.reduceAdd, Nat.reduceMul, Nat.reduceLeDiff, Nat.reduceLT, Nat.reduceSub, IntWalk.iteOmega, IntWalk.toNatUp, reduceCtorEq, false_and, and_false, false_or, or_false, true_or, or_true, not_true_eq_false, not_false_eq_true, Bool.not_true, Bool.not_false, Bool.and_true, Bool.true_and, Bool.and_false, Bool.false_and, Bool.not_eq_true, beq_self_eq_true, Nat.add_zero, Int.reduceLE, Int.reduceLT, Int.reduceToNat, Int.reduceNeg]
  refine (in_ok T _ _ _ _).pure ?_
  by_cases q1 : 1 ≤ k ∧ k ≤ 9
  ·
    simp (config := {contextual := true, maxSteps := 2000000, implicitDefEqProofs := false}) only [go_sem, ↓reduceIte, Nat.reduceEqDiff, Nat.reduceAdd, Nat.reduceMul, Nat.reduceLeDiff, Nat.reduceLT, Nat.reduceSub, IntWalk.iteOmega, IntWalk.toNatUp, reduceCtorEq, false_and, and_false, false_or, or_false, true_or, or_true, not_true_eq_false, not_false_eq_true, Bool.not_true, Bool.not_false, Bool.and_true, Bool.true_and, Bool.and_false, Bool.false_and, Bool.not_eq_true, beq_self_eq_true, Nat.add_zero, Int.reduceLE, Int.reduceLT, Int.reduceToNat, Int.reduceNeg, q1]
    refine (uses_ok T _ _).pure ?_
    by_cases q2 : hasNode k
    ·
      have q4 : ¬ hasAt k := by unfold hasNode at q2; unfold hasAt; omega
      simp (config := {contextual := true, maxSteps := 2000000, implicitDefEqProofs := false}) only [go_sem, ↓reduceIte, Nat.reduceEqDiff, Nat.reduceAdd, Nat.reduceMul, Nat.reduceLeDiff, Nat.reduceLT, Nat.reduceSub, IntWalk.iteOmega, IntWalk.toNatUp, reduceCtorEq, false_and, and_false, false_or, or_false, true_or, or_true, not_true_eq_false, not_false_eq_true, Bool.not_true, Bool.not_false, Bool.and_true, Bool.true_and, Bool.and_false, Bool.false_and, Bool.not_eq_true, beq_self_eq_true, Nat.add_zero, Int.reduceLE, Int.reduceLT, Int.reduceToNat, Int.reduceNeg, q1, q2, q4]
      refine (in_ok T _ _ _ _).pure ?_
      by_cases q3 : 0 ≤ n ∧ n ≤ 4
      ·
        by_cases q6 : k = 8
        ·
          simp (config := {contextual := true, maxSteps := 2000000, implicitDefEqProofs := false}) only [go_sem, ↓reduceIte, Nat.reduceEqDiff, Nat.reduceAdd, Nat.reduceMul, Nat.reduceLeDiff, Nat.reduceLT, Nat.reduceSub, IntWalk.iteOmega, IntWalk.toNatUp, reduceCtorEq, false_and, and_false, false_or, or_false, true_or, or_true, not_true_eq_false, not_false_eq_true, Bool.not_true, Bool.not_false, Bool.and_true, Bool.true_and, Bool.and_false, Bool.false_and, Bool.not_eq_true, beq_self_eq_true, Nat.add_zero, Int.reduceLE, Int.reduceLT, Int.reduceToNat, Int.reduceNeg, q1, q2, q4, q3, q6]
          refine (in_ok T _ _ _ _).pure ?_
          by_cases q7 : 0 ≤ b ∧ b ≤ 100000
          ·
            by_cases q8 : 2000 < len
            ·
              have q8' : 2000 < (len : Int) := by omega
              simp (config := {contextual := true, maxSteps := 2000000, implicitDefEqProofs := false}) only [go_sem, ↓reduceIte, Nat.reduceEqDiff, Nat.reduceAdd, Nat.reduceMul, Nat.reduceLeDiff, Nat.reduceLT, Nat.reduceSub, IntWalk.iteOmega, IntWalk.toNatUp, reduceCtorEq, false_and, and_false, false_or, or_false, true_or, or_true, not_true_eq_false, not_false_eq_true, Bool.not_true, Bool.not_false, Bool.and_true, Bool.true_and, Bool.and_false, Bool.false_and, Bool.not_eq_true, beq_self_eq_true, Nat.add_zero, Int.reduceLE, Int.reduceLT, Int.reduceToNat, Int.reduceNeg, q1, q2, q4, q3, q6, q7, q8, q8']
              first | done | rfl | exact (Bel.refl _ _).add _
            ·
              have q8' : ¬ 2000 < (len : Int) := by omega
              by_cases za : a = 0
              ·
                by_cases k1 : k = 1
                ·
                  have m1 : hasNode 1 := by unfold hasNode; omega
                  have m2 : ¬ hasAt 1 := by unfold hasAt; omega
                  have m3 : ¬ (1 : Int) = 8 := by omega
                  simp (config := {contextual := true, maxSteps := 2000000, implicitDefEqProofs := false}) only [go_sem, ↓reduceIte, Nat.reduceEqDiff, Nat.reduceAdd, Nat.reduceMul, Nat.reduceLeDiff, Nat.reduceLT, Nat.reduceSub, IntWalk.iteOmega, IntWalk.toNatUp, reduceCtorEq, false_and, and_false, false_or, or_false, true_or, or_true, not_true_eq_false, not_false_eq_true, Bool.not_true, Bool.not_false, Bool.and_true, Bool.true_and, Bool.and_false, Bool.false_and, Bool.not_eq_true, beq_self_eq_true, Nat.add_zero, Int.reduceLE, Int.reduceLT, Int.reduceToNat, Int.reduceNeg, q1, q2, q4, q3, q6, q7, q8, q8', za, k1, m1, m2, m3]
                  first | done | rfl | exact (Bel.refl _ _).add _
                ·
                  by_cases l0 : 0 < len
                  ·
                    have l0' : 0 < (len : Int) := by omega
                    simp (config := {contextual := true, maxSteps := 2000000, implicitDefEqProofs := false}) only [go_sem, ↓reduceIte, Nat.reduceEqDiff, Nat.reduceAdd, Nat.reduceMul, Nat.reduceLeDiff, Nat.reduceLT, Nat.reduceSub, IntWalk.iteOmega, IntWalk.toNatUp, reduceCtorEq, false_and, and_false, false_or, or_false, true_or, or_true, not_true_eq_false, not_false_eq_true, Bool.not_true, Bool.not_false, Bool.and_true, Bool.true_and, Bool.and_false, Bool.false_and, Bool.not_eq_true, beq_self_eq_true, Nat.add_zero, Int.reduceLE, Int.reduceLT, Int.reduceToNat, Int.reduceNeg, q1, q2, q4, q3, q6, q7, q8, q8', za, k1, l0, l0']
                    first | done | rfl | exact (Bel.refl _ _).add _
                  ·
                    have l0' : ¬ 0 < (len : Int) := by omega
                    simp (config := {contextual := true, maxSteps := 2000000, implicitDefEqProofs := false}) only [go_sem, ↓reduceIte, Nat.reduceEqDiff, Nat.reduceAdd, Nat.reduceMul, Nat.reduceLeDiff, Nat.reduceLT, Nat.reduceSub, IntWalk.iteOmega, IntWalk.toNatUp, reduceCtorEq, false_and, and_false, false_or, or_false, true_or, or_true, not_true_eq_false, not_false_eq_true, Bool.not_true, Bool.not_false, Bool.and_true, Bool.true_and, Bool.and_false, Bool.false_and, Bool.not_eq_true, beq_self_eq_true, Nat.add_zero, Int.reduceLE, Int.reduceLT, Int.reduceToNat, Int.reduceNeg, q1, q2, q4, q3, q6, q7, q8, q8', za, k1, l0, l0']
                    first | done | rfl | exact (Bel.refl _ _).add _
              ·
                simp (config := {contextual := true, maxSteps := 2000000, implicitDefEqProofs := false}) only [go_sem, ↓reduceIte, Nat.reduceEqDiff, Nat.reduceAdd, Nat.reduceMul, Nat.reduceLeDiff, Nat.reduceLT, Nat.reduceSub, IntWalk.iteOmega, IntWalk.toNatUp, reduceCtorEq, false_and, and_false, false_or, or_false, true_or, or_true, not_true_eq_false, not_false_eq_true, Bool.not_true, Bool.not_false, Bool.and_true, Bool.true_and, Bool.and_false, Bool.false_and, Bool.not_eq_true, beq_self_eq_true, Nat.add_zero, Int.reduceLE, Int.reduceLT, Int.reduceToNat, Int.reduceNeg, q1, q2, q4, q3, q6, q7, q8, q8', za]
                first | done | rfl | exact (Bel.refl _ _).add _
          ·
            simp (config := {contextual := true, maxSteps := 2000000, implicitDefEqProofs := false}) only [go_sem, ↓reduceIte, Nat.reduceEqDiff, Nat.reduceAdd, Nat.reduceMul, Nat.reduceLeDiff, Nat.reduceLT, Nat.reduceSub, IntWalk.iteOmega, IntWalk.toNatUp, reduceCtorEq, false_and, and_false, false_or, or_false, true_or, or_true, not_true_eq_false, not_false_eq_true, Bool.not_true, Bool.not_false, Bool.and_true, Bool.true_and, Bool.and_false, Bool.false_and, Bool.not_eq_true, beq_self_eq_true, Nat.add_zero, Int.reduceLE, Int.reduceLT, Int.reduceToNat, Int.reduceNeg, q1, q2, q4, q3, q6, q7]
            first | done | rfl | exact (Bel.refl _ _).add _
        ·
          by_cases q8 : 2000 < len
          ·
            have q8' : 2000 < (len : Int) := by omega
            simp (config := {contextual := true, maxSteps := 2000000, implicitDefEqProofs := false}) only [go_sem, ↓reduceIte, Nat.reduceEqDiff, Nat.reduceAdd, Nat.reduceMul, Nat.reduceLeDiff, Nat.reduceLT, Nat.reduceSub, IntWalk.iteOmega, IntWalk.toNatUp, reduceCtorEq, false_and, and_false, false_or, or_false, true_or, or_true, not_true_eq_false, not_false_eq_true, Bool.not_true, Bool.not_false, Bool.and_true, Bool.true_and, Bool.and_false, Bool.false_and, Bool.not_eq_true, beq_self_eq_true, Nat.add_zero, Int.reduceLE, Int.reduceLT, Int.reduceToNat, Int.reduceNeg, q1, q2, q4, q3, q6, q8, q8']
            first | done | rfl | exact (Bel.refl _ _).add _
          ·
            have q8' : ¬ 2000 < (len : Int) := by omega
            by_cases za : a = 0
            ·
              by_cases zb : b = 0
              ·
                by_cases k1 : k = 1
                ·
                  have m1 : hasNode 1 := by unfold hasNode; omega
                  have m2 : ¬ hasAt 1 := by unfold hasAt; omega
                  have m3 : ¬ (1 : Int) = 8 := by omega
                  simp (config := {contextual := true, maxSteps := 2000000, implicitDefEqProofs := false}) only [go_sem, ↓reduceIte, Nat.reduceEqDiff, Nat.reduceAdd, Nat.reduceMul, Nat.reduceLeDiff, Nat.reduceLT, Nat.reduceSub, IntWalk.iteOmega, IntWalk.toNatUp, reduceCtorEq, false_and, and_false, false_or, or_false, true_or, or_true, not_true_eq_false, not_false_eq_true, Bool.not_true, Bool.not_false, Bool.and_true, Bool.true_and, Bool.and_false, Bool.false_and, Bool.not_eq_true, beq_self_eq_true, Nat.add_zero, Int.reduceLE, Int.reduceLT, Int.reduceToNat, Int.reduceNeg, q1, q2, q4, q3, q6, q8, q8', za, zb, k1, m1, m2, m3]
                  first | done | rfl | exact (Bel.refl _ _).add _
                ·
                  by_cases l0 : 0 < len
                  ·
                    have l0' : 0 < (len : Int) := by omega
                    simp (config := {contextual := true, maxSteps := 2000000, implicitDefEqProofs := false}) only [go_sem, ↓reduceIte, Nat.reduceEqDiff, Nat.reduceAdd, Nat.reduceMul, Nat.reduceLeDiff, Nat.reduceLT, Nat.reduceSub, IntWalk.iteOmega, IntWalk.toNatUp, reduceCtorEq, false_and, and_false, false_or, or_false, true_or, or_true, not_true_eq_false, not_false_eq_true, Bool.not_true, Bool.not_false, Bool.and_true, Bool.true_and, Bool.and_false, Bool.false_and, Bool.not_eq_true, beq_self_eq_true, Nat.add_zero, Int.reduceLE, Int.reduceLT, Int.reduceToNat, Int.reduceNeg, q1, q2, q4, q3, q6, q8, q8', za, zb, k1, l0, l0']
                    first | done | rfl | exact (Bel.refl _ _).add _
                  ·
                    have l0' : ¬ 0 < (len : Int) := by omega
                    simp (config := {contextual := true, maxSteps := 2000000, implicitDefEqProofs := false}) only [go_sem, ↓reduceIte, Nat.reduceEqDiff, Nat.reduceAdd, Nat.reduceMul, Nat.reduceLeDiff, Nat.reduceLT, Nat.reduceSub, IntWalk.iteOmega, IntWalk.toNatUp, reduceCtorEq, false_and, and_false, false_or, or_false, true_or, or_true, not_true_eq_false, not_false_eq_true, Bool.not_true, Bool.not_false, Bool.and_true, Bool.true_and, Bool.and_false, Bool.false_and, Bool.not_eq_true, beq_self_eq_true, Nat.add_zero, Int.reduceLE, Int.reduceLT, Int.reduceToNat, Int.reduceNeg, q1, q2, q4, q3, q6, q8, q8', za, zb, k1, l0, l0']
                    first | done | rfl | exact (Bel.refl _ _).add _
              ·
                simp (config := {contextual := true, maxSteps := 2000000, implicitDefEqProofs := false}) only [go_sem, ↓reduceIte, Nat.reduceEqDiff, Nat.reduceAdd, Nat.reduceMul, Nat.reduceLeDiff, Nat.reduceLT, Nat.reduceSub, IntWalk.iteOmega, IntWalk.toNatUp, reduceCtorEq, false_and, and_false, false_or, or_false, true_or, or_true, not_true_eq_false, not_false_eq_true, Bool.not_true, Bool.not_false, Bool.and_true, Bool.true_and, Bool.and_false, Bool.false_and, Bool.not_eq_true, beq_self_eq_true, Nat.add_zero, Int.reduceLE, Int.reduceLT, Int.reduceToNat, Int.reduceNeg, q1, q2, q4, q3, q6, q8, q8', za, zb]
                first | done | rfl | exact (Bel.refl _ _).add _
            ·
              simp (config := {contextual := true, maxSteps := 2000000, implicitDefEqProofs := false}) only [go_sem, ↓reduceIte, Nat.reduceEqDiff, Nat.reduceAdd, Nat.reduceMul, Nat.reduceLeDiff, Nat.reduceLT, Nat.reduceSub, IntWalk.iteOmega, IntWalk.toNatUp, reduceCtorEq, false_and, and_false, false_or, or_false, true_or, or_true, not_true_eq_false, not_false_eq_true, Bool.not_true, Bool.not_false, Bool.and_true, Bool.true_and, Bool.and_false, Bool.false_and, Bool.not_eq_true, beq_self_eq_true, Nat.add_zero, Int.reduceLE, Int.reduceLT, Int.reduceToNat, Int.reduceNeg, q1, q2, q4, q3, q6, q8, q8', za]
              first | done | rfl | exact (Bel.refl _ _).add _
      ·
        simp (config := {contextual := true, maxSteps := 2000000, implicitDefEqProofs := false}) only [go_sem, ↓reduceIte, Nat.reduceEqDiff, Nat.reduceAdd, Nat.reduceMul, Nat.reduceLeDiff, Nat.reduceLT, Nat.reduceSub, IntWalk.iteOmega, IntWalk.toNatUp, reduceCtorEq, false_and, and_false, false_or, or_false, true_or, or_true, not_true_eq_false, not_false_eq_true, Bool.not_true, Bool.not_false, Bool.and_true, Bool.true_and, Bool.and_false, Bool.false_and, Bool.not_eq_true, beq_self_eq_true, Nat.add_zero, Int.reduceLE, Int.reduceLT, Int.reduceToNat, Int.reduceNeg, q1, q2, q4, q3]
        first | done | rfl | exact (Bel.refl _ _).add _
    ·
      have q6 : ¬ k = 8 := by unfold hasNode at q2; omega
      by_cases q4 : hasAt k
      ·
        simp (config := {contextual := true, maxSteps := 2000000, implicitDefEqProofs := false}) only [go_sem, ↓reduceIte, Nat.reduceEqDiff, Nat.reduceAdd, Nat.reduceMul, Nat.reduceLeDiff, Nat.reduceLT, Nat.reduceSub, IntWalk.iteOmega, IntWalk.toNatUp, reduceCtorEq, false_and, and_false, false_or, or_false, true_or, or_true, not_true_eq_false, not_false_eq_true, Bool.not_true, Bool.not_false, Bool.and_true, Bool.true_and, Bool.and_false, Bool.false_and, Bool.not_eq_true, beq_self_eq_true, Nat.add_zero, Int.reduceLE, Int.reduceLT, Int.reduceToNat, Int.reduceNeg, q1, q2, q6, q4]
        refine (in_ok T _ _ _ _).pure ?_
        by_cases q5 : 0 ≤ a ∧ a ≤ 1048576
        ·
          by_cases q8 : 2000 < len
          ·
            have q8' : 2000 < (len : Int) := by omega
            simp (config := {contextual := true, maxSteps := 2000000, implicitDefEqProofs := false}) only [go_sem, ↓reduceIte, Nat.reduceEqDiff, Nat.reduceAdd, Nat.reduceMul, Nat.reduceLeDiff, Nat.reduceLT, Nat.reduceSub, IntWalk.iteOmega, IntWalk.toNatUp, reduceCtorEq, false_and, and_false, false_or, or_false, true_or, or_true, not_true_eq_false, not_false_eq_true, Bool.not_true, Bool.not_false, Bool.and_true, Bool.true_and, Bool.and_false, Bool.false_and, Bool.not_eq_true, beq_self_eq_true, Nat.add_zero, Int.reduceLE, Int.reduceLT, Int.reduceToNat, Int.reduceNeg, q1, q2, q6, q4, q5, q8, q8']
            first | done | rfl | exact (Bel.refl _ _).add _
          ·
            have q8' : ¬ 2000 < (len : Int) := by omega
            by_cases zn : n = 0
            ·
              by_cases zb : b = 0
              ·
                by_cases k1 : k = 1
                ·
                  exact absurd (by unfold hasNode; omega) q2
                ·
                  by_cases l0 : 0 < len
                  ·
                    have l0' : 0 < (len : Int) := by omega
                    simp (config := {contextual := true, maxSteps := 2000000, implicitDefEqProofs := false}) only [go_sem, ↓reduceIte, Nat.reduceEqDiff, Nat.reduceAdd, Nat.reduceMul, Nat.reduceLeDiff, Nat.reduceLT, Nat.reduceSub, IntWalk.iteOmega, IntWalk.toNatUp, reduceCtorEq, false_and, and_false, false_or, or_false, true_or, or_true, not_true_eq_false, not_false_eq_true, Bool.not_true, Bool.not_false, Bool.and_true, Bool.true_and, Bool.and_false, Bool.false_and, Bool.not_eq_true, beq_self_eq_true, Nat.add_zero, Int.reduceLE, Int.reduceLT, Int.reduceToNat, Int.reduceNeg, q1, q2, q6, q4, q5, q8, q8', zn, zb, k1, l0, l0']
                    first | done | rfl | exact (Bel.refl _ _).add _
                  ·
                    have l0' : ¬ 0 < (len : Int) := by omega
                    simp (config := {contextual := true, maxSteps := 2000000, implicitDefEqProofs := false}) only [go_sem, ↓reduceIte, Nat.reduceEqDiff, Nat.reduceAdd, Nat.reduceMul, Nat.reduceLeDiff, Nat.reduceLT, Nat.reduceSub, IntWalk.iteOmega, IntWalk.toNatUp, reduceCtorEq, false_and, and_false, false_or, or_false, true_or, or_true, not_true_eq_false, not_false_eq_true, Bool.not_true, Bool.not_false, Bool.and_true, Bool.true_and, Bool.and_false, Bool.false_and, Bool.not_eq_true, beq_self_eq_true, Nat.add_zero, Int.reduceLE, Int.reduceLT, Int.reduceToNat, Int.reduceNeg, q1, q2, q6, q4, q5, q8, q8', zn, zb, k1, l0, l0']
                    first | done | rfl | exact (Bel.refl _ _).add _
              ·
                simp (config := {contextual := true, maxSteps := 2000000, implicitDefEqProofs := false}) only [go_sem, ↓reduceIte, Nat.reduceEqDiff, Nat.reduceAdd, Nat.reduceMul, Nat.reduceLeDiff, Nat.reduceLT, Nat.reduceSub, IntWalk.iteOmega, IntWalk.toNatUp, reduceCtorEq, false_and, and_false, false_or, or_false, true_or, or_true, not_true_eq_false, not_false_eq_true, Bool.not_true, Bool.not_false, Bool.and_true, Bool.true_and, Bool.and_false, Bool.false_and, Bool.not_eq_true, beq_self_eq_true, Nat.add_zero, Int.reduceLE, Int.reduceLT, Int.reduceToNat, Int.reduceNeg, q1, q2, q6, q4, q5, q8, q8', zn, zb]
                first | done | rfl | exact (Bel.refl _ _).add _
            ·
              simp (config := {contextual := true, maxSteps := 2000000, implicitDefEqProofs := false}) only [go_sem, ↓reduceIte, Nat.reduceEqDiff, Nat.reduceAdd, Nat.reduceMul, Nat.reduceLeDiff, Nat.reduceLT, Nat.reduceSub, IntWalk.iteOmega, IntWalk.toNatUp, reduceCtorEq, false_and, and_false, false_or, or_false, true_or, or_true, not_true_eq_false, not_false_eq_true, Bool.not_true, Bool.not_false, Bool.and_true, Bool.true_and, Bool.and_false, Bool.false_and, Bool.not_eq_true, beq_self_eq_true, Nat.add_zero, Int.reduceLE, Int.reduceLT, Int.reduceToNat, Int.reduceNeg, q1, q2, q6, q4, q5, q8, q8', zn]
              first | done | rfl | exact (Bel.refl _ _).add _
        ·
          simp (config := {contextual := true, maxSteps := 2000000, implicitDefEqProofs := false}) only [go_sem, ↓reduceIte, Nat.reduceEqDiff, Nat.reduceAdd, Nat.reduceMul, Nat.reduceLeDiff, Nat.reduceLT, Nat.reduceSub, IntWalk.iteOmega, IntWalk.toNatUp, reduceCtorEq, false_and, and_false, false_or, or_false, true_or, or_true, not_true_eq_false, not_false_eq_true, Bool.not_true, Bool.not_false, Bool.and_true, Bool.true_and, Bool.and_false, Bool.false_and, Bool.not_eq_true, beq_self_eq_true, Nat.add_zero, Int.reduceLE, Int.reduceLT, Int.reduceToNat, Int.reduceNeg, q1, q2, q6, q4, q5]
          first | done | rfl | exact (Bel.refl _ _).add _
      ·
        by_cases q8 : 2000 < len
        ·
          have q8' : 2000 < (len : Int) := by omega
          simp (config := {contextual := true, maxSteps := 2000000, implicitDefEqProofs := false}) only [go_sem, ↓reduceIte, Nat.reduceEqDiff, Nat.reduceAdd, Nat.reduceMul, Nat.reduceLeDiff, Nat.reduceLT, Nat.reduceSub, IntWalk.iteOmega, IntWalk.toNatUp, reduceCtorEq, false_and, and_false, false_or, or_false, true_or, or_true, not_true_eq_false, not_false_eq_true, Bool.not_true, Bool.not_false, Bool.and_true, Bool.true_and, Bool.and_false, Bool.false_and, Bool.not_eq_true, beq_self_eq_true, Nat.add_zero, Int.reduceLE, Int.reduceLT, Int.reduceToNat, Int.reduceNeg, q1, q2, q6, q4, q8, q8']
          first | done | rfl | exact (Bel.refl _ _).add _
        ·
          have q8' : ¬ 2000 < (len : Int) := by omega
          by_cases zn : n = 0
          ·
            by_cases za : a = 0
            ·
              by_cases zb : b = 0
              ·
                by_cases k1 : k = 1
                ·
                  exact absurd (by unfold hasNode; omega) q2
                ·
                  by_cases l0 : 0 < len
                  ·
                    have l0' : 0 < (len : Int) := by omega
                    simp (config := {contextual := true, maxSteps := 2000000, implicitDefEqProofs := false}) only [go_sem, ↓reduceIte, Nat.reduceEqDiff, Nat.reduceAdd, Nat.reduceMul, Nat.reduceLeDiff, Nat.reduceLT, Nat.reduceSub, IntWalk.iteOmega, IntWalk.toNatUp, reduceCtorEq, false_and, and_false, false_or, or_false, true_or, or_true, not_true_eq_false, not_false_eq_true, Bool.not_true, Bool.not_false, Bool.and_true, Bool.true_and, Bool.and_false, Bool.false_and, Bool.not_eq_true, beq_self_eq_true, Nat.add_zero, Int.reduceLE, Int.reduceLT, Int.reduceToNat, Int.reduceNeg, q1, q2, q6, q4, q8, q8', zn, za, zb, k1, l0, l0']
                    first | done | rfl | exact (Bel.refl _ _).add _
                  ·
                    have l0' : ¬ 0 < (len : Int) := by omega
                    simp (config := {contextual := true, maxSteps := 2000000, implicitDefEqProofs := false}) only [go_sem, ↓reduceIte, Nat.reduceEqDiff, Nat.reduceAdd, Nat.reduceMul, Nat.reduceLeDiff, Nat.reduceLT, Nat.reduceSub, IntWalk.iteOmega, IntWalk.toNatUp, reduceCtorEq, false_and, and_false, false_or, or_false, true_or, or_true, not_true_eq_false, not_false_eq_true, Bool.not_true, Bool.not_false, Bool.and_true, Bool.true_and, Bool.and_false, Bool.false_and, Bool.not_eq_true, beq_self_eq_true, Nat.add_zero, Int.reduceLE, Int.reduceLT, Int.reduceToNat, Int.reduceNeg, q1, q2, q6, q4, q8, q8', zn, za, zb, k1, l0, l0']
                    first | done | rfl | exact (Bel.refl _ _).add _
              ·
                simp (config := {contextual := true, maxSteps := 2000000, implicitDefEqProofs := false}) only [go_sem, ↓reduceIte, Nat.reduceEqDiff, Nat.reduceAdd, Nat.reduceMul, Nat.reduceLeDiff, Nat.reduceLT, Nat.reduceSub, IntWalk.iteOmega, IntWalk.toNatUp, reduceCtorEq, false_and, and_false, false_or, or_false, true_or, or_true, not_true_eq_false, not_false_eq_true, Bool.not_true, Bool.not_false, Bool.and_true, Bool.true_and, Bool.and_false, Bool.false_and, Bool.not_eq_true, beq_self_eq_true, Nat.add_zero, Int.reduceLE, Int.reduceLT, Int.reduceToNat, Int.reduceNeg, q1, q2, q6, q4, q8, q8', zn, za, zb]
                first | done | rfl | exact (Bel.refl _ _).add _
            ·
              simp (config := {contextual := true, maxSteps := 2000000, implicitDefEqProofs := false}) only [go_sem, ↓reduceIte, Nat.reduceEqDiff, Nat.reduceAdd, Nat.reduceMul, Nat.reduceLeDiff, Nat.reduceLT, Nat.reduceSub, IntWalk.iteOmega, IntWalk.toNatUp, reduceCtorEq, false_and, and_false, false_or, or_false, true_or, or_true, not_true_eq_false, not_false_eq_true, Bool.not_true, Bool.not_false, Bool.and_true, Bool.true_and, Bool.and_false, Bool.false_and, Bool.not_eq_true, beq_self_eq_true, Nat.add_zero, Int.reduceLE, Int.reduceLT, Int.reduceToNat, Int.reduceNeg, q1, q2, q6, q4, q8, q8', zn, za]
              first | done | rfl | exact (Bel.refl _ _).add _
          ·
            simp (config := {contextual := true, maxSteps := 2000000, implicitDefEqProofs := false}) only [go_sem, ↓reduceIte, Nat.reduceEqDiff, Nat.reduceAdd, Nat.reduceMul, Nat.reduceLeDiff, Nat.reduceLT, Nat.reduceSub, IntWalk.iteOmega, IntWalk.toNatUp, reduceCtorEq, false_and, and_false, false_or, or_false, true_or, or_true, not_true_eq_false, not_false_eq_true, Bool.not_true, Bool.not_false, Bool.and_true, Bool.true_and, Bool.and_false, Bool.false_and, Bool.not_eq_true, beq_self_eq_true, Nat.add_zero, Int.reduceLE, Int.reduceLT, Int.reduceToNat, Int.reduceNeg, q1, q2, q6, q4, q8, q8', zn]
            first | done | rfl | exact (Bel.refl _ _).add _
  ·
    simp (config := {contextual := true, maxSteps := 2000000, implicitDefEqProofs := false}) only [go_sem, ↓reduceIte, Nat.reduceEqDiff, Nat.reduceAdd, Nat.reduceMul, Nat.reduceLeDiff, Nat.reduceLT, Nat.reduceSub, IntWalk.iteOmega, IntWalk.toNatUp, reduceCtorEq, false_and, and_false, false_or, or_false, true_or, or_true, not_true_eq_false, not_false_eq_true, Bool.not_true, Bool.not_false, Bool.and_true, Bool.true_and, Bool.and_false, Bool.false_and, Bool.not_eq_true, beq_self_eq_true, Nat.add_zero, Int.reduceLE, Int.reduceLT, Int.reduceToNat, Int.reduceNeg, q1]
    first | done | rfl | exact (Bel.refl _ _).add _
theorem linesChecks_ok : LawOk Try.prog 11 Try.f11.params.toList := by
  intro T args hfit
  rw [show Try.f11.params.toList = [61] from rfl] at hfit
  obtain ⟨v, _, rfl, ⟨k1, h1⟩, hfit⟩ := fitAll_cons hfit
  obtain rfl := fitAll_nil hfit
  obtain ⟨cs, rfl, hl, hf⟩ := fitV_struct (l := rep 4 [3] ++ [26]) Try.underlying61 (by kernel_rfl) (by kernel_rfl) h1
  obtain ⟨k, _, rfl, _, _, hf⟩ := fitL_int Try.underlying3 hf
  obtain ⟨n, _, rfl, _, _, hf⟩ := fitL_int Try.underlying3 hf
  obtain ⟨a, _, rfl, _, _, hf⟩ := fitL_int Try.underlying3 hf
  obtain ⟨b, _, rfl, _, _, hf⟩ := fitL_int Try.underlying3 hf
  obtain ⟨v, cs, k2, rfl, hk, hf⟩ := fitL_cell hf
  obtain rfl := fitL_nil hf
  obtain ⟨l, s, hll⟩ := fit_bytes Try.underlying26 Try.underlying5 (by kernel_rfl) (by kernel_rfl) hk
  obtain ⟨p, c, rfl, _⟩ := s.open
  generalize T.heap = h at *
  refine CallsH.of_code' (args := [_]) Try.func11 rfl rfl rfl rfl ?_
  simp (config := {contextual := true, maxSteps := 2000000, implicitDefEqProofs := false}) only [go_sem, ↓reduceIte, Nat.reduceEqDiff, Nat.reduceAdd, Nat.reduceMul, Nat.reduceLeDiff, Nat.reduceLT, Nat.reduceSub, IntWalk.iteOmega, IntWalk.toNatUp, reduceCtorEq, false_and, and_false, false_or, or_false, true_or, or_true, not_true_eq_false, not_false_eq_true, Bool.not_true, Bool.not_false, Bool.and_true, Bool.true_and, Bool.and_false, Bool.false_and, Bool.not_eq_true, beq_self_eq_true, Nat.add_zero, Int.reduceLE, Int.reduceLT, Int.reduceToNat, Int.reduceNeg]
  refine (linesCheck_ok T _ k n a b p l.length c).use ?_
  rintro v1 h1 ⟨rfl, b1⟩
  have x1 : h1[h.size]? = some (.cells (actC k n a b (.slice p l.length c)).toArray 61) := b1.get (by simp) get_push_last
  have y1 := rd_last x1 (n := 5) rfl
  simp (config := {contextual := true, maxSteps := 2000000, implicitDefEqProofs := false}) only [go_sem, ↓reduceIte, Nat.reduceEqDiff, Nat.reduceAdd, Nat.reduceMul, Nat.reduceLeDiff, Nat.reduceLT, Nat.reduceSub, IntWalk.iteOmega, IntWalk.toNatUp, reduceCtorEq, false_and, and_false, false_or, or_false, true_or, or_true, not_true_eq_false, not_false_eq_true, Bool.not_true, Bool.not_false, Bool.and_true, Bool.true_and, Bool.and_false, Bool.false_and, Bool.not_eq_true, beq_self_eq_true, Nat.add_zero, Int.reduceLE, Int.reduceLT, Int.reduceToNat, Int.reduceNeg, y1]
  refine (actFault_ok T _ k n a b p l.length c).use ?_
  rintro v1 h2 ⟨rfl, b2⟩
  simp (config := {contextual := true, maxSteps := 2000000, implicitDefEqProofs := false}) only [go_sem, ↓reduceIte, Nat.reduceEqDiff, Nat.reduceAdd, Nat.reduceMul, Nat.reduceLeDiff, Nat.reduceLT, Nat.reduceSub, IntWalk.iteOmega, IntWalk.toNatUp, reduceCtorEq, false_and, and_false, false_or, or_false, true_or, or_true, not_true_eq_false, not_false_eq_true, Bool.not_true, Bool.not_false, Bool.and_true, Bool.true_and, Bool.and_false, Bool.false_and, Bool.not_eq_true, beq_self_eq_true, Nat.add_zero, Int.reduceLE, Int.reduceLT, Int.reduceToNat, Int.reduceNeg]
  exact ((Bel.push (Nat.le_refl _) _).trans (b1.mono (by simp))).trans (b2.mono (Nat.le_of_lt (lt_of_get x1)))
theorem linesChecks_lifted (os : Os) (started : os.Started) (H : Type) (enc : TypeId × Value → H) :
    ReturnsInHanded {} Try.checked os 11 .any (Rows.linesChecksSpec.pre6 enc Try.prog Try.f11 Rows.linesChecksRow.domain false) (Rows.linesChecksSpec.post enc Try.prog Try.f11 false true false false) :=
  law_lifted (C := Try.checked) ownKnobT started (by kernel_rfl) Try.func11
    (ChangeSpec.witness6 (enc := enc) (C := Try.checked) false ⟨#[], #[.agg (rep 4 [Value.int .i64 0] ++ [Value.slice none 0 0]).toArray], []⟩ 12 (by kernel_rfl) (by kernel_rfl) (by kernel_rfl) (by kernel_rfl))
    laidOutT (by kernel_rfl) (by kernel_rfl) (tb := 4) rfl Try.underlying4 rfl (fun ds hd => by
      have hl : ds.length = 1 := hd
      match ds, hl with
      | [d0], _ => rfl) linesChecks_ok
theorem linesChecks_holds : Rows.LinesChecksSaid :=
  OpenClaim.holds_of_wide 11 Try.f11 rfl rfl rfl rfl rfl rfl rfl ⟨rfl, rfl, rfl, rfl, rfl⟩ rfl rfl rfl rfl rfl (by kernel_rfl) Try.func11 (show joinedFacts Try.prog 11 Try.f11 Rows.linesChecksSpec Rows.linesChecksRow = true by unfold joinedFacts; rw [makeT, enterT, liftsT]; kernel_rfl)
    (of_decide_eq_true (by kernel_rfl)) (by unfold Func.isWrapper; rw [if_neg (of_decide_eq_false (by kernel_rfl))]; exact ⟨rfl, rfl⟩)
    (fun os started H enc _ => linesChecks_lifted os started H enc)
end Go.Proofs.Ytjgbajgmndkfjaa
