/- PaxosPromises holds: paxos.Promise answers what the document says, at every argument, and changes none of them; without any condition. -/
import Derived.Test.YtnpacofabdgcdaaDoorPax
namespace Go.Proofs.YtnpacofabdgcdaaDoor
open Go Go.V
set_option linter.unusedSimpArgs false
set_option linter.unusedVariables false
set_option maxRecDepth 100000
theorem cloneVotes_ok (T : World) (h : Hp) (u : Value) (l : List Vt) (s : Ts voteC 8 h u l) (hl : l.length ≤ 2199023255552) :
    CallsH Tryd.prog T 129 #[u] h fun v' h' => Ots h.size 80 voteC 8 h' v' l ∧ Bel h.size h h' := by
  obtain ⟨p, c, rfl, hc1⟩ := votes_open s
  refine CallsH.of_code' (args := [_]) Tryd.func129 rfl rfl rfl rfl ?_
  cases p with
  | none =>
    have : l = [] := by
      cases l with
      | nil => rfl
      | cons x l => obtain ⟨b, o, hp, _⟩ := hc1 (by simp); cases hp
    subst this
    simp (config := {maxSteps := 2000000, implicitDefEqProofs := false}) only [go_sem, ↓reduceIte, Nat.reduceEqDiff, Nat.reduceAdd, Nat.reduceMul, Nat.reduceLeDiff, Nat.reduceLT, Nat.reduceSub, IntWalk.iteOmega, IntWalk.toNatUp, reduceCtorEq, false_and, and_false, false_or, or_false, true_or, or_true, not_true_eq_false, not_false_eq_true, Bool.not_true, Bool.not_false, Bool.and_true, Bool.true_and, Bool.and_false, Bool.false_and, Bool.not_eq_true, beq_self_eq_true, Nat.add_zero, Int.reduceLE, Int.reduceLT, Int.reduceToNat, Int.reduceNeg]
    exact Ots.nil _ _ _ _ _
  | some a =>
    simp (config := {maxSteps := 2000000, implicitDefEqProofs := false}) only [go_sem, ↓reduceIte, Nat.reduceEqDiff, Nat.reduceAdd, Nat.reduceMul, Nat.reduceLeDiff, Nat.reduceLT, Nat.reduceSub, IntWalk.iteOmega, IntWalk.toNatUp, reduceCtorEq, false_and, and_false, false_or, or_false, true_or, or_true, not_true_eq_false, not_false_eq_true, Bool.not_true, Bool.not_false, Bool.and_true, Bool.true_and, Bool.and_false, Bool.false_and, Bool.not_eq_true, beq_self_eq_true, Nat.add_zero, Int.reduceLE, Int.reduceLT, Int.reduceToNat, Int.reduceNeg]
    refine append_ts (E := 80) (B := h.size) (n := 8) (bytes := 64) tsl83 Tryd.underlying83 tn80 tz80 rfl tb80 (fun _ => rfl) (Ots.nil' _ _ voteC 8 _ _) (by simp) (s.bel (Bel.push (Nat.le_refl _) _)) (by simp; omega) (by omega) ?_
    intro v' h' ho hb _
    simp (config := {maxSteps := 2000000, implicitDefEqProofs := false}) only [go_sem, ↓reduceIte, Nat.reduceEqDiff, Nat.reduceAdd, Nat.reduceMul, Nat.reduceLeDiff, Nat.reduceLT, Nat.reduceSub, IntWalk.iteOmega, IntWalk.toNatUp, reduceCtorEq, false_and, and_false, false_or, or_false, true_or, or_true, not_true_eq_false, not_false_eq_true, Bool.not_true, Bool.not_false, Bool.and_true, Bool.true_and, Bool.and_false, Bool.false_and, Bool.not_eq_true, beq_self_eq_true, Nat.add_zero, Int.reduceLE, Int.reduceLT, Int.reduceToNat, Int.reduceNeg]
    exact ⟨by simpa using ho, (Bel.push (Nat.le_refl _) _).trans hb⟩
theorem votesCopy_ok (T : World) (h : Hp) (u : Value) (l : List Vt) (s : Ts voteC 8 h u l) (hl : l.length ≤ 2199023255552) :
    CallsH Tryd.prog T 180 #[u] h fun v' h' => Ots h.size 80 voteC 8 h' v' l ∧ Bel h.size h h' := by
  obtain ⟨p, c, rfl, hc1⟩ := votes_open s
  refine CallsH.of_code' (args := [_]) Tryd.func180 rfl rfl rfl rfl ?_
  simp (config := {maxSteps := 2000000, implicitDefEqProofs := false}) only [go_sem, ↓reduceIte, Nat.reduceEqDiff, Nat.reduceAdd, Nat.reduceMul, Nat.reduceLeDiff, Nat.reduceLT, Nat.reduceSub, IntWalk.iteOmega, IntWalk.toNatUp, reduceCtorEq, false_and, and_false, false_or, or_false, true_or, or_true, not_true_eq_false, not_false_eq_true, Bool.not_true, Bool.not_false, Bool.and_true, Bool.true_and, Bool.and_false, Bool.false_and, Bool.not_eq_true, beq_self_eq_true, Nat.add_zero, Int.reduceLE, Int.reduceLT, Int.reduceToNat, Int.reduceNeg]
  refine VS.loop' (fun F g => Bel h.size h g ∧ F 0 = .slice p l.length c ∧ ∃ i : Nat, i ≤ l.length ∧ F 4 = .int .i64 i ∧ Ots h.size 80 voteC 8 g (F 3) (l.take i))
    (fun F _ => l.length - (vi (F 4)).toNat) rfl ⟨Bel.refl _ _, rfl, 0, by omega, rfl, Ots.nil _ _ _ _ _⟩ ?_
  rintro F g ⟨hg, f0, i, hi, f4, ho⟩
  by_cases hlt : i < l.length
  · have hlt' : (i : Int) < l.length := by omega
    obtain ⟨bb, oo, rfl, hbb, _, hcs⟩ := hc1 (by intro e; rw [e] at hlt; simp at hlt)
    have r1 : rd g ⟨bb, oo + i * 8, none⟩ 8 = some (voteC l[i]) := by rw [rd_bel hg (by exact hbb)]; exact hcs i hlt
    have hone := Ts.one (E := 80) (h := g) (enc := voteC) (n := 8) l[i] (fun _ => rfl) 1
    unfold voteC at r1
    have hgs := hg.size
    simp (config := {maxSteps := 2000000, implicitDefEqProofs := false}) only [go_sem, ↓reduceIte, Nat.reduceEqDiff, Nat.reduceAdd, Nat.reduceMul, Nat.reduceLeDiff, Nat.reduceLT, Nat.reduceSub, IntWalk.iteOmega, IntWalk.toNatUp, reduceCtorEq, false_and, and_false, false_or, or_false, true_or, or_true, not_true_eq_false, not_false_eq_true, Bool.not_true, Bool.not_false, Bool.and_true, Bool.true_and, Bool.and_false, Bool.false_and, Bool.not_eq_true, beq_self_eq_true, Nat.add_zero, Int.reduceLE, Int.reduceLT, Int.reduceToNat, Int.reduceNeg, f0, f4, hlt', r1]
    refine append_ts (E := 80) (B := h.size) (n := 8) (bytes := 64) tsl83 Tryd.underlying83 tn80 tz80 rfl tb80 (fun _ => rfl) (ho.push _) (by simp; omega) hone (by simp only [List.length_take, List.length_singleton]; omega) (by omega) ?_
    intro v' h' ho' hb' _
    simp (config := {maxSteps := 2000000, implicitDefEqProofs := false}) only [go_sem, ↓reduceIte, Nat.reduceEqDiff, Nat.reduceAdd, Nat.reduceMul, Nat.reduceLeDiff, Nat.reduceLT, Nat.reduceSub, IntWalk.iteOmega, IntWalk.toNatUp, reduceCtorEq, false_and, and_false, false_or, or_false, true_or, or_true, not_true_eq_false, not_false_eq_true, Bool.not_true, Bool.not_false, Bool.and_true, Bool.true_and, Bool.and_false, Bool.false_and, Bool.not_eq_true, beq_self_eq_true, Nat.add_zero, Int.reduceLE, Int.reduceLT, Int.reduceToNat, Int.reduceNeg, f0, f4]
    refine ⟨⟨(hg.addP hgs _).trans hb', f0, i + 1, by omega, rfl, ?_⟩, ?_⟩
    · rw [take_snoc l i hlt]; exact ho'
    · simp only [vi, updo_some, ↓reduceIte, f4]; omega
  · have hge : ¬ (i : Int) < l.length := by omega
    obtain rfl : i = l.length := by omega
    rw [List.take_length] at ho
    simp (config := {maxSteps := 2000000, implicitDefEqProofs := false}) only [go_sem, ↓reduceIte, Nat.reduceEqDiff, Nat.reduceAdd, Nat.reduceMul, Nat.reduceLeDiff, Nat.reduceLT, Nat.reduceSub, IntWalk.iteOmega, IntWalk.toNatUp, reduceCtorEq, false_and, and_false, false_or, or_false, true_or, or_true, not_true_eq_false, not_false_eq_true, Bool.not_true, Bool.not_false, Bool.and_true, Bool.true_and, Bool.and_false, Bool.false_and, Bool.not_eq_true, beq_self_eq_true, Nat.add_zero, Int.reduceLE, Int.reduceLT, Int.reduceToNat, Int.reduceNeg, f0, f4, hge]
    exact ⟨ho, hg⟩
def voteK : List (Option IntKind) := rep 8 [some .i64]
theorem sameVotes_eq (T : World) (h : Hp) (u w : Value) (l : List Vt) (s : Ts voteC 8 h u l) (t : Ts voteC 8 h w l) (hl : l.length ≤ 2199023255552) :
    CallsH Tryd.prog T 108 #[u, w] h fun v' h' => v' = .bool true ∧ h' = h := by
  obtain ⟨p, c, rfl, hc1⟩ := votes_open s
  obtain ⟨q, d, rfl, hc2⟩ := votes_open t
  refine CallsH.of_code' (args := [_, _]) Tryd.func108 rfl rfl rfl rfl ?_
  simp (config := {maxSteps := 2000000, implicitDefEqProofs := false}) only [go_sem, ↓reduceIte, Nat.reduceEqDiff, Nat.reduceAdd, Nat.reduceMul, Nat.reduceLeDiff, Nat.reduceLT, Nat.reduceSub, IntWalk.iteOmega, IntWalk.toNatUp, reduceCtorEq, false_and, and_false, false_or, or_false, true_or, or_true, not_true_eq_false, not_false_eq_true, Bool.not_true, Bool.not_false, Bool.and_true, Bool.true_and, Bool.and_false, Bool.false_and, Bool.not_eq_true, beq_self_eq_true, Nat.add_zero, Int.reduceLE, Int.reduceLT, Int.reduceToNat, Int.reduceNeg]
  refine VS.loop' (fun F g => g = h ∧ F 0 = .slice p l.length c ∧ F 1 = .slice q l.length d ∧ ∃ i : Nat, i ≤ l.length ∧ F 5 = .int .i64 i)
    (fun F _ => l.length - (vi (F 5)).toNat) rfl ⟨rfl, rfl, rfl, 0, by omega, rfl⟩ ?_
  rintro F g ⟨rfl, f0, f1, i, hi, f5⟩
  by_cases hlt : i < l.length
  · have hlt' : (i : Int) < l.length := by omega
    have hne : l ≠ [] := by intro e; rw [e] at hlt; simp at hlt
    obtain ⟨bb, oo, rfl, hbb, _, hcs⟩ := hc1 hne
    obtain ⟨b2, o2, rfl, hb2, _, hcs2⟩ := hc2 hne
    have r1 := hcs i hlt
    have r2 := hcs2 i hlt
    unfold voteC at r1 r2
    simp (config := {maxSteps := 2000000, implicitDefEqProofs := false}) only [go_sem, ↓reduceIte, Nat.reduceEqDiff, Nat.reduceAdd, Nat.reduceMul, Nat.reduceLeDiff, Nat.reduceLT, Nat.reduceSub, IntWalk.iteOmega, IntWalk.toNatUp, reduceCtorEq, false_and, and_false, false_or, or_false, true_or, or_true, not_true_eq_false, not_false_eq_true, Bool.not_true, Bool.not_false, Bool.and_true, Bool.true_and, Bool.and_false, Bool.false_and, Bool.not_eq_true, beq_self_eq_true, Nat.add_zero, Int.reduceLE, Int.reduceLT, Int.reduceToNat, Int.reduceNeg, f0, f1, f5, hlt']
    refine VS.q mixed (by kernel_rfl) ?_
    simp (config := {maxSteps := 2000000, implicitDefEqProofs := false}) only [go_sem, ↓reduceIte, Nat.reduceEqDiff, Nat.reduceAdd, Nat.reduceMul, Nat.reduceLeDiff, Nat.reduceLT, Nat.reduceSub, IntWalk.iteOmega, IntWalk.toNatUp, reduceCtorEq, false_and, and_false, false_or, or_false, true_or, or_true, not_true_eq_false, not_false_eq_true, Bool.not_true, Bool.not_false, Bool.and_true, Bool.true_and, Bool.and_false, Bool.false_and, Bool.not_eq_true, beq_self_eq_true, Nat.add_zero, Int.reduceLE, Int.reduceLT, Int.reduceToNat, Int.reduceNeg, f0, f1, f5, r1, r2]
    refine ⟨⟨rfl, f0, f1, i + 1, by omega, rfl⟩, ?_⟩
    simp only [vi, updo_some, ↓reduceIte, f5]; omega
  · have hge : ¬ (i : Int) < l.length := by omega
    simp (config := {maxSteps := 2000000, implicitDefEqProofs := false}) only [go_sem, ↓reduceIte, Nat.reduceEqDiff, Nat.reduceAdd, Nat.reduceMul, Nat.reduceLeDiff, Nat.reduceLT, Nat.reduceSub, IntWalk.iteOmega, IntWalk.toNatUp, reduceCtorEq, false_and, and_false, false_or, or_false, true_or, or_true, not_true_eq_false, not_false_eq_true, Bool.not_true, Bool.not_false, Bool.and_true, Bool.true_and, Bool.and_false, Bool.false_and, Bool.not_eq_true, beq_self_eq_true, Nat.add_zero, Int.reduceLE, Int.reduceLT, Int.reduceToNat, Int.reduceNeg, f0, f5, hge]
theorem sameAcceptor_eq (T : World) (h : Hp) (p : Bal) (u w : Value) (l : List Vt) (s : Ts voteC 8 h u l) (t : Ts voteC 8 h w l) (hl : l.length ≤ 2199023255552) :
    CallsH Tryd.prog T 58 #[.agg (accC p u).toArray, .agg (accC p w).toArray] h fun v' h' => v' = .bool true ∧ Bel h.size h h' := by
  obtain ⟨pu, c, rfl, hc1⟩ := votes_open s
  obtain ⟨q, d, rfl, hc2⟩ := votes_open t
  refine CallsH.of_code' (args := [_, _]) Tryd.func58 rfl rfl rfl rfl ?_
  unfold accC
  simp (config := {maxSteps := 2000000, implicitDefEqProofs := false}) only [go_sem, ↓reduceIte, Nat.reduceEqDiff, Nat.reduceAdd, Nat.reduceMul, Nat.reduceLeDiff, Nat.reduceLT, Nat.reduceSub, IntWalk.iteOmega, IntWalk.toNatUp, reduceCtorEq, false_and, and_false, false_or, or_false, true_or, or_true, not_true_eq_false, not_false_eq_true, Bool.not_true, Bool.not_false, Bool.and_true, Bool.true_and, Bool.and_false, Bool.false_and, Bool.not_eq_true, beq_self_eq_true, Nat.add_zero, Int.reduceLE, Int.reduceLT, Int.reduceToNat, Int.reduceNeg]
  refine (sameVotes_eq T _ _ _ l (s.bel ((Bel.refl h.size h).add _ |>.add _)) (t.bel ((Bel.refl h.size h).add _ |>.add _)) hl).pure ?_
  simp (config := {maxSteps := 2000000, implicitDefEqProofs := false}) only [go_sem, ↓reduceIte, Nat.reduceEqDiff, Nat.reduceAdd, Nat.reduceMul, Nat.reduceLeDiff, Nat.reduceLT, Nat.reduceSub, IntWalk.iteOmega, IntWalk.toNatUp, reduceCtorEq, false_and, and_false, false_or, or_false, true_or, or_true, not_true_eq_false, not_false_eq_true, Bool.not_true, Bool.not_false, Bool.and_true, Bool.true_and, Bool.and_false, Bool.false_and, Bool.not_eq_true, beq_self_eq_true, Nat.add_zero, Int.reduceLE, Int.reduceLT, Int.reduceToNat, Int.reduceNeg]
def prErr (p : Bal) (l : List Vt) (b : Bal) : Int := if accErr p l ≠ 0 then 5 else if ¬ ballotMay b then 2 else if below b p then 7 else 0
theorem accErr_five (p : Bal) (l : List Vt) : accErr p l = 0 ∨ accErr p l = 5 := by
  unfold accErr
  repeat' split
  all_goals simp
def PrRes (B : Nat) (h' : Hp) (v' : Value) (p : Bal) (l : List Vt) (b : Bal) : Prop := ∃ w1 w2, v' = .tuple [.agg (accC (if prErr p l b = 0 then b else ⟨0, 0⟩) w1).toArray, w2, .int .i64 (prErr p l b)].toArray ∧
  Ots B 80 voteC 8 h' w1 (if prErr p l b = 0 then l else []) ∧ Ots B 80 voteC 8 h' w2 (if prErr p l b = 0 then l else [])
theorem promise_ok (T : World) (h : Hp) (p : Bal) (u : Value) (l : List Vt) (b : Bal) (s : Ts voteC 8 h u l) (hl : l.length ≤ 2199023255552) :
    CallsH Tryd.prog T 89 #[.agg (accC p u).toArray, .agg (balC b).toArray] h fun v' h' => PrRes h.size h' v' p l b ∧ Bel h.size h h' := by
  obtain ⟨pu, cu, rfl, hc1⟩ := votes_open s
  refine CallsH.of_code2 (args := [_, _]) Tryd.func89 rfl rfl rfl rfl ?_
  unfold accC balC
  simp (config := {maxSteps := 2000000, implicitDefEqProofs := false}) only [go_sem, ↓reduceIte, Nat.reduceEqDiff, Nat.reduceAdd, Nat.reduceMul, Nat.reduceLeDiff, Nat.reduceLT, Nat.reduceSub, IntWalk.iteOmega, IntWalk.toNatUp, reduceCtorEq, false_and, and_false, false_or, or_false, true_or, or_true, not_true_eq_false, not_false_eq_true, Bool.not_true, Bool.not_false, Bool.and_true, Bool.true_and, Bool.and_false, Bool.false_and, Bool.not_eq_true, beq_self_eq_true, Nat.add_zero, Int.reduceLE, Int.reduceLT, Int.reduceToNat, Int.reduceNeg]
  have hpush : Bel h.size h ((((h.push (.cells [.int .i64 p.r, .int .i64 p.n, .slice pu l.length cu].toArray 85)).push (.cells [.int .i64 b.r, .int .i64 b.n].toArray 67)).push (.cells [.int .i64 0, .int .i64 0, .slice none 0 0].toArray 85))) := by (repeat' (first | exact Bel.refl _ _ | assumption | refine Bel.add ?_ _ | refine Bel.addSet ?_ (by first | omega | (simp; omega)) _ | refine Bel.trans (by assumption) ?_))
  refine (paxosCheck_ok T _ p _ l (s.bel hpush) (by omega)).use ?_
  rintro _ g1 ⟨rfl, b1⟩
  have x0 : g1[h.size]? = some (.cells (accC p (.slice pu l.length cu)).toArray 85) := b1.get (by simp only [Array.size_push]; omega) (by simp only [Array.getElem?_push, Array.size_push, IntWalk.iteOmega, ↓reduceIte, accC])
  have x1 : g1[h.size + 1]? = some (.cells [.int .i64 b.r, .int .i64 b.n].toArray 67) := b1.get (by simp only [Array.size_push]; omega) (by simp only [Array.getElem?_push, Array.size_push, IntWalk.iteOmega, ↓reduceIte])
  have x2 : g1[h.size + 2]? = some (.cells [.int .i64 0, .int .i64 0, .slice none 0 0].toArray 85) := b1.get (by simp only [Array.size_push]; omega) (by simp only [Array.getElem?_push, Array.size_push, IntWalk.iteOmega, ↓reduceIte])
  have hB1 : Bel h.size h g1 := hpush.trans (b1.mono (by simp; omega))
  have z1 := lt_of_get x2
  clear b1 hpush
  have fin : ∀ (G : Hp) (w : List Value), w.length = 3 → w.all oneC = true → G[h.size + 2]? = some (.cells [.int .i64 0, .int .i64 0, .slice none 0 0].toArray 85) → wr G ⟨h.size + 1 + 1, 0, none⟩ w = some (G.setIfInBounds (h.size + 1 + 1) (.cells w.toArray 85)) := by
    intro G w h3 h1 hx
    rw [wr_get (b := h.size + 1 + 1) hx 0 w, lput_full (by rw [h3]; rfl), if_pos ⟨by rw [h3]; simp, h1⟩]
  unfold PrRes
  rcases accErr_five p l with e0 | e0
  · have r1 := rd_last x1 (n := 2) rfl
    simp (config := {maxSteps := 2000000, implicitDefEqProofs := false}) only [go_sem, ↓reduceIte, Nat.reduceEqDiff, Nat.reduceAdd, Nat.reduceMul, Nat.reduceLeDiff, Nat.reduceLT, Nat.reduceSub, IntWalk.iteOmega, IntWalk.toNatUp, reduceCtorEq, false_and, and_false, false_or, or_false, true_or, or_true, not_true_eq_false, not_false_eq_true, Bool.not_true, Bool.not_false, Bool.and_true, Bool.true_and, Bool.and_false, Bool.false_and, Bool.not_eq_true, beq_self_eq_true, Nat.add_zero, Int.reduceLE, Int.reduceLT, Int.reduceToNat, Int.reduceNeg, e0, r1]
    refine (ballot_ok T _ b).use ?_
    rintro _ _ ⟨rfl, rfl⟩
    by_cases q1 : ballotMay b
    · have rp : rd g1 ⟨h.size, 0, none⟩ 2 = some [.int .i64 p.r, .int .i64 p.n] := by rw [rd_part x0 (by simp [accC])]; rfl
      have z2 : h.size < g1.size := by omega
      have z3 : h.size + 1 < g1.size := by omega
      unfold balC
      simp (config := {maxSteps := 2000000, implicitDefEqProofs := false}) only [go_sem, ↓reduceIte, Nat.reduceEqDiff, Nat.reduceAdd, Nat.reduceMul, Nat.reduceLeDiff, Nat.reduceLT, Nat.reduceSub, IntWalk.iteOmega, IntWalk.toNatUp, reduceCtorEq, false_and, and_false, false_or, or_false, true_or, or_true, not_true_eq_false, not_false_eq_true, Bool.not_true, Bool.not_false, Bool.and_true, Bool.true_and, Bool.and_false, Bool.false_and, Bool.not_eq_true, beq_self_eq_true, Nat.add_zero, Int.reduceLE, Int.reduceLT, Int.reduceToNat, Int.reduceNeg, q1, r1, rp, z2, z3]
      refine (compare_ok T _ b p).use ?_
      rintro _ g2 ⟨rfl, b2⟩
      have hg12 : Bel g1.size g1 g2 := (Bel.push (Nat.le_refl _) _).trans (b2.mono (by simp))
      have x0' := hg12.get z2 x0
      have x1' := hg12.get z3 x1
      have x2' := hg12.get z1 x2
      have hB2 := hB1.trans (hg12.mono hB1.size)
      have z5 := lt_of_get x2'
      by_cases q2 : below b p
      · have e : prErr p l b = 7 := by unfold prErr; rw [if_neg (by rw [e0]; decide), if_neg (fun h => h q1), if_pos q2]
        have w2 := fin g2 [.int .i64 0, .int .i64 0, .slice none 0 0] rfl rfl x2'
        have c2' : bcmp b p < 0 := (bcmp_neg b p).2 q2
        simp (config := {maxSteps := 2000000, implicitDefEqProofs := false}) only [go_sem, ↓reduceIte, Nat.reduceEqDiff, Nat.reduceAdd, Nat.reduceMul, Nat.reduceLeDiff, Nat.reduceLT, Nat.reduceSub, IntWalk.iteOmega, IntWalk.toNatUp, reduceCtorEq, false_and, and_false, false_or, or_false, true_or, or_true, not_true_eq_false, not_false_eq_true, Bool.not_true, Bool.not_false, Bool.and_true, Bool.true_and, Bool.and_false, Bool.false_and, Bool.not_eq_true, beq_self_eq_true, Nat.add_zero, Int.reduceLE, Int.reduceLT, Int.reduceToNat, Int.reduceNeg, c2', e, w2, z5]
        refine ⟨⟨_, _, rfl, Ots.nil _ _ _ _ _, Ots.nil _ _ _ _ _⟩, ?_⟩
        exact hB2.addSet (by omega) _
      · have e : prErr p l b = 0 := by unfold prErr; rw [if_neg (by rw [e0]; decide), if_neg (fun h => h q1), if_neg q2]
        have r1' := rd_last x1' (n := 2) rfl
        have rv : hc g2 ⟨h.size, 2, none⟩ = some (.slice pu l.length cu) := by rw [hc_last x0']; rfl
        have c2' : ¬ bcmp b p < 0 := fun h => q2 ((bcmp_neg b p).1 h)
        simp (config := {maxSteps := 2000000, implicitDefEqProofs := false}) only [go_sem, ↓reduceIte, Nat.reduceEqDiff, Nat.reduceAdd, Nat.reduceMul, Nat.reduceLeDiff, Nat.reduceLT, Nat.reduceSub, IntWalk.iteOmega, IntWalk.toNatUp, reduceCtorEq, false_and, and_false, false_or, or_false, true_or, or_true, not_true_eq_false, not_false_eq_true, Bool.not_true, Bool.not_false, Bool.and_true, Bool.true_and, Bool.and_false, Bool.false_and, Bool.not_eq_true, beq_self_eq_true, Nat.add_zero, Int.reduceLE, Int.reduceLT, Int.reduceToNat, Int.reduceNeg, c2']
        refine VS.w (h.size + 2) [] (.q 0 (.q 1 (.q 2 (.q 5 (.q 6 (.s 3 (.q 4 (.s 7 (.s 8 (.q 9 (.q 10 .nil))))))))))) mixed (by kernel_rfl) ?_
        have z6 : h.size < h.size + 2 := by omega
        have z7 : h.size + 1 < h.size + 2 := by omega
        simp (config := {maxSteps := 2000000, implicitDefEqProofs := false}) only [go_sem, ↓reduceIte, Nat.reduceEqDiff, Nat.reduceAdd, Nat.reduceMul, Nat.reduceLeDiff, Nat.reduceLT, Nat.reduceSub, IntWalk.iteOmega, IntWalk.toNatUp, reduceCtorEq, false_and, and_false, false_or, or_false, true_or, or_true, not_true_eq_false, not_false_eq_true, Bool.not_true, Bool.not_false, Bool.and_true, Bool.true_and, Bool.and_false, Bool.false_and, Bool.not_eq_true, beq_self_eq_true, Nat.add_zero, Int.reduceLE, Int.reduceLT, Int.reduceToNat, Int.reduceNeg, r1', rv, z6, z7]
        refine (cloneVotes_ok T _ _ l (s.bel hB2) hl).use ?_
        rintro w1 g3 ⟨o1, b3⟩
        obtain ⟨p1, c1, rfl, _⟩ := o1.open
        have b3' : Bel (h.size + 2) g2 g3 := b3.mono (by omega)
        simp (config := {maxSteps := 2000000, implicitDefEqProofs := false}) only [go_sem, ↓reduceIte, Nat.reduceEqDiff, Nat.reduceAdd, Nat.reduceMul, Nat.reduceLeDiff, Nat.reduceLT, Nat.reduceSub, IntWalk.iteOmega, IntWalk.toNatUp, reduceCtorEq, false_and, and_false, false_or, or_false, true_or, or_true, not_true_eq_false, not_false_eq_true, Bool.not_true, Bool.not_false, Bool.and_true, Bool.true_and, Bool.and_false, Bool.false_and, Bool.not_eq_true, beq_self_eq_true, Nat.add_zero, Int.reduceLE, Int.reduceLT, Int.reduceToNat, Int.reduceNeg]
        refine ⟨b3', ?_⟩
        refine (cloneVotes_ok T _ _ l ((s.bel hB2).bel b3) hl).use ?_
        rintro w2 g4 ⟨o2, b4⟩
        have b3s := b3.size
        have b4s := b4.size
        have b4' : Bel (h.size + 2) g2 g4 := b3'.trans (b4.mono (by omega))
        have x2'' : g4[h.size + 2]? = some (.cells [.int .i64 0, .int .i64 0, .slice none 0 0].toArray 85) := b4.get (by omega) (b3.get z5 x2')
        have z8 := lt_of_get x2''
        have wf := fin g4 [.int .i64 b.r, .int .i64 b.n, .slice p1 l.length c1] rfl rfl x2''
        have hB4 := hB2.trans ((b3.trans (b4.mono b3s)).mono hB2.size)
        simp (config := {maxSteps := 2000000, implicitDefEqProofs := false}) only [go_sem, ↓reduceIte, Nat.reduceEqDiff, Nat.reduceAdd, Nat.reduceMul, Nat.reduceLeDiff, Nat.reduceLT, Nat.reduceSub, IntWalk.iteOmega, IntWalk.toNatUp, reduceCtorEq, false_and, and_false, false_or, or_false, true_or, or_true, not_true_eq_false, not_false_eq_true, Bool.not_true, Bool.not_false, Bool.and_true, Bool.true_and, Bool.and_false, Bool.false_and, Bool.not_eq_true, beq_self_eq_true, Nat.add_zero, Int.reduceLE, Int.reduceLT, Int.reduceToNat, Int.reduceNeg, e, wf, z8]
        refine ⟨b4', b4'.addSet (by omega) _, ⟨_, _, rfl, ?_, ?_⟩, ?_⟩
        · exact (((o1.bel b4 (Nat.le_refl _)).mono (B' := h.size + 1 + 1 + 1) (by omega)).setLow (by omega) _).mono (by omega)
        · exact ((o2.mono (B' := h.size + 1 + 1 + 1) (by omega)).setLow (by omega) _).mono (by omega)
        · exact hB4.addSet (by omega) _
    · have e : prErr p l b = 2 := by unfold prErr; rw [if_neg (by rw [e0]; decide), if_pos q1]
      have w2 := fin g1 [.int .i64 0, .int .i64 0, .slice none 0 0] rfl rfl x2
      simp (config := {maxSteps := 2000000, implicitDefEqProofs := false}) only [go_sem, ↓reduceIte, Nat.reduceEqDiff, Nat.reduceAdd, Nat.reduceMul, Nat.reduceLeDiff, Nat.reduceLT, Nat.reduceSub, IntWalk.iteOmega, IntWalk.toNatUp, reduceCtorEq, false_and, and_false, false_or, or_false, true_or, or_true, not_true_eq_false, not_false_eq_true, Bool.not_true, Bool.not_false, Bool.and_true, Bool.true_and, Bool.and_false, Bool.false_and, Bool.not_eq_true, beq_self_eq_true, Nat.add_zero, Int.reduceLE, Int.reduceLT, Int.reduceToNat, Int.reduceNeg, q1, e, w2, z1]
      exact ⟨⟨_, _, rfl, Ots.nil _ _ _ _ _, Ots.nil _ _ _ _ _⟩, (hB1.addSet (by omega) _).addP (by simp; omega) _⟩
  · have e : prErr p l b = 5 := by unfold prErr; rw [if_pos (by rw [e0]; decide)]
    have w2 := fin g1 [.int .i64 0, .int .i64 0, .slice none 0 0] rfl rfl x2
    simp (config := {maxSteps := 2000000, implicitDefEqProofs := false}) only [go_sem, ↓reduceIte, Nat.reduceEqDiff, Nat.reduceAdd, Nat.reduceMul, Nat.reduceLeDiff, Nat.reduceLT, Nat.reduceSub, IntWalk.iteOmega, IntWalk.toNatUp, reduceCtorEq, false_and, and_false, false_or, or_false, true_or, or_true, not_true_eq_false, not_false_eq_true, Bool.not_true, Bool.not_false, Bool.and_true, Bool.true_and, Bool.and_false, Bool.false_and, Bool.not_eq_true, beq_self_eq_true, Nat.add_zero, Int.reduceLE, Int.reduceLT, Int.reduceToNat, Int.reduceNeg, e0, e, w2, z1]
    exact ⟨⟨_, _, rfl, Ots.nil _ _ _ _ _, Ots.nil _ _ _ _ _⟩, hB1.addSet (by omega) _⟩
theorem promisedTo_ok (T : World) (h : Hp) (p : Bal) (u : Value) (l : List Vt) (b : Bal) (s : Ts voteC 8 h u l) (hl : l.length ≤ 2199023255552) :
    CallsH Tryd.prog T 144 #[.agg (accC p u).toArray, .agg (balC b).toArray] h fun v' h' => PrRes h.size h' v' p l b ∧ Bel h.size h h' := by
  obtain ⟨pu, cu, rfl, hc1⟩ := votes_open s
  refine CallsH.of_code2 (args := [_, _]) Tryd.func144 rfl rfl rfl rfl ?_
  unfold accC balC
  simp (config := {maxSteps := 2000000, implicitDefEqProofs := false}) only [go_sem, ↓reduceIte, Nat.reduceEqDiff, Nat.reduceAdd, Nat.reduceMul, Nat.reduceLeDiff, Nat.reduceLT, Nat.reduceSub, IntWalk.iteOmega, IntWalk.toNatUp, reduceCtorEq, false_and, and_false, false_or, or_false, true_or, or_true, not_true_eq_false, not_false_eq_true, Bool.not_true, Bool.not_false, Bool.and_true, Bool.true_and, Bool.and_false, Bool.false_and, Bool.not_eq_true, beq_self_eq_true, Nat.add_zero, Int.reduceLE, Int.reduceLT, Int.reduceToNat, Int.reduceNeg]
  have hpush : Bel h.size h ((((h.push (.cells [.int .i64 p.r, .int .i64 p.n, .slice pu l.length cu].toArray 85)).push (.cells [.int .i64 b.r, .int .i64 b.n].toArray 67)).push (.cells [.int .i64 0, .int .i64 0, .slice none 0 0].toArray 85))) := by (repeat' (first | exact Bel.refl _ _ | assumption | refine Bel.add ?_ _ | refine Bel.addSet ?_ (by first | omega | (simp; omega)) _ | refine Bel.trans (by assumption) ?_))
  refine (acceptorFault_ok T _ p _ l (s.bel hpush) (by omega)).use ?_
  rintro _ g1 ⟨rfl, b1⟩
  have x0 : g1[h.size]? = some (.cells (accC p (.slice pu l.length cu)).toArray 85) := b1.get (by simp only [Array.size_push]; omega) (by simp only [Array.getElem?_push, Array.size_push, IntWalk.iteOmega, ↓reduceIte, accC])
  have x1 : g1[h.size + 1]? = some (.cells [.int .i64 b.r, .int .i64 b.n].toArray 67) := b1.get (by simp only [Array.size_push]; omega) (by simp only [Array.getElem?_push, Array.size_push, IntWalk.iteOmega, ↓reduceIte])
  have x2 : g1[h.size + 2]? = some (.cells [.int .i64 0, .int .i64 0, .slice none 0 0].toArray 85) := b1.get (by simp only [Array.size_push]; omega) (by simp only [Array.getElem?_push, Array.size_push, IntWalk.iteOmega, ↓reduceIte])
  have hB1 : Bel h.size h g1 := hpush.trans (b1.mono (by simp; omega))
  have z1 := lt_of_get x2
  clear b1 hpush
  have fin : ∀ (G : Hp) (w : List Value), w.length = 3 → w.all oneC = true → G[h.size + 2]? = some (.cells [.int .i64 0, .int .i64 0, .slice none 0 0].toArray 85) → wr G ⟨h.size + 1 + 1, 0, none⟩ w = some (G.setIfInBounds (h.size + 1 + 1) (.cells w.toArray 85)) := by
    intro G w h3 h1 hx
    rw [wr_get (b := h.size + 1 + 1) hx 0 w, lput_full (by rw [h3]; rfl), if_pos ⟨by rw [h3]; simp, h1⟩]
  unfold PrRes
  rcases accErr_five p l with e0 | e0
  · have r1 := rd_last x1 (n := 2) rfl
    simp (config := {maxSteps := 2000000, implicitDefEqProofs := false}) only [go_sem, ↓reduceIte, Nat.reduceEqDiff, Nat.reduceAdd, Nat.reduceMul, Nat.reduceLeDiff, Nat.reduceLT, Nat.reduceSub, IntWalk.iteOmega, IntWalk.toNatUp, reduceCtorEq, false_and, and_false, false_or, or_false, true_or, or_true, not_true_eq_false, not_false_eq_true, Bool.not_true, Bool.not_false, Bool.and_true, Bool.true_and, Bool.and_false, Bool.false_and, Bool.not_eq_true, beq_self_eq_true, Nat.add_zero, Int.reduceLE, Int.reduceLT, Int.reduceToNat, Int.reduceNeg, e0, r1]
    refine (ballotMay_ok T _ b).use ?_
    rintro _ _ ⟨rfl, rfl⟩
    by_cases q1 : ballotMay b
    · have rp : rd g1 ⟨h.size, 0, none⟩ 2 = some [.int .i64 p.r, .int .i64 p.n] := by rw [rd_part x0 (by simp [accC])]; rfl
      have z2 : h.size < g1.size := by omega
      have z3 : h.size + 1 < g1.size := by omega
      unfold balC
      simp (config := {maxSteps := 2000000, implicitDefEqProofs := false}) only [go_sem, ↓reduceIte, Nat.reduceEqDiff, Nat.reduceAdd, Nat.reduceMul, Nat.reduceLeDiff, Nat.reduceLT, Nat.reduceSub, IntWalk.iteOmega, IntWalk.toNatUp, reduceCtorEq, false_and, and_false, false_or, or_false, true_or, or_true, not_true_eq_false, not_false_eq_true, Bool.not_true, Bool.not_false, Bool.and_true, Bool.true_and, Bool.and_false, Bool.false_and, Bool.not_eq_true, beq_self_eq_true, Nat.add_zero, Int.reduceLE, Int.reduceLT, Int.reduceToNat, Int.reduceNeg, q1, r1, rp, z2, z3]
      refine (ballotBelow_ok T _ b p).use ?_
      rintro _ g2 ⟨rfl, b2⟩
      have hg12 : Bel g1.size g1 g2 := (Bel.push (Nat.le_refl _) _).trans (b2.mono (by simp))
      have x0' := hg12.get z2 x0
      have x1' := hg12.get z3 x1
      have x2' := hg12.get z1 x2
      have hB2 := hB1.trans (hg12.mono hB1.size)
      have z5 := lt_of_get x2'
      by_cases q2 : below b p
      · have e : prErr p l b = 7 := by unfold prErr; rw [if_neg (by rw [e0]; decide), if_neg (fun h => h q1), if_pos q2]
        have w2 := fin g2 [.int .i64 0, .int .i64 0, .slice none 0 0] rfl rfl x2'
        simp (config := {maxSteps := 2000000, implicitDefEqProofs := false}) only [go_sem, ↓reduceIte, Nat.reduceEqDiff, Nat.reduceAdd, Nat.reduceMul, Nat.reduceLeDiff, Nat.reduceLT, Nat.reduceSub, IntWalk.iteOmega, IntWalk.toNatUp, reduceCtorEq, false_and, and_false, false_or, or_false, true_or, or_true, not_true_eq_false, not_false_eq_true, Bool.not_true, Bool.not_false, Bool.and_true, Bool.true_and, Bool.and_false, Bool.false_and, Bool.not_eq_true, beq_self_eq_true, Nat.add_zero, Int.reduceLE, Int.reduceLT, Int.reduceToNat, Int.reduceNeg, q2, e, w2, z5]
        refine ⟨⟨_, _, rfl, Ots.nil _ _ _ _ _, Ots.nil _ _ _ _ _⟩, ?_⟩
        exact hB2.addSet (by omega) _
      · have e : prErr p l b = 0 := by unfold prErr; rw [if_neg (by rw [e0]; decide), if_neg (fun h => h q1), if_neg q2]
        have r1' := rd_last x1' (n := 2) rfl
        have rv : hc g2 ⟨h.size, 2, none⟩ = some (.slice pu l.length cu) := by rw [hc_last x0']; rfl
        simp (config := {maxSteps := 2000000, implicitDefEqProofs := false}) only [go_sem, ↓reduceIte, Nat.reduceEqDiff, Nat.reduceAdd, Nat.reduceMul, Nat.reduceLeDiff, Nat.reduceLT, Nat.reduceSub, IntWalk.iteOmega, IntWalk.toNatUp, reduceCtorEq, false_and, and_false, false_or, or_false, true_or, or_true, not_true_eq_false, not_false_eq_true, Bool.not_true, Bool.not_false, Bool.and_true, Bool.true_and, Bool.and_false, Bool.false_and, Bool.not_eq_true, beq_self_eq_true, Nat.add_zero, Int.reduceLE, Int.reduceLT, Int.reduceToNat, Int.reduceNeg, q2]
        refine VS.w (h.size + 2) [] (.q 0 (.q 1 (.q 2 (.q 5 (.q 6 (.s 3 (.q 4 (.s 7 (.s 8 (.q 9 (.q 10 .nil))))))))))) mixed (by kernel_rfl) ?_
        have z6 : h.size < h.size + 2 := by omega
        have z7 : h.size + 1 < h.size + 2 := by omega
        simp (config := {maxSteps := 2000000, implicitDefEqProofs := false}) only [go_sem, ↓reduceIte, Nat.reduceEqDiff, Nat.reduceAdd, Nat.reduceMul, Nat.reduceLeDiff, Nat.reduceLT, Nat.reduceSub, IntWalk.iteOmega, IntWalk.toNatUp, reduceCtorEq, false_and, and_false, false_or, or_false, true_or, or_true, not_true_eq_false, not_false_eq_true, Bool.not_true, Bool.not_false, Bool.and_true, Bool.true_and, Bool.and_false, Bool.false_and, Bool.not_eq_true, beq_self_eq_true, Nat.add_zero, Int.reduceLE, Int.reduceLT, Int.reduceToNat, Int.reduceNeg, r1', rv, z6, z7]
        refine (votesCopy_ok T _ _ l (s.bel hB2) hl).use ?_
        rintro w1 g3 ⟨o1, b3⟩
        obtain ⟨p1, c1, rfl, _⟩ := o1.open
        have b3' : Bel (h.size + 2) g2 g3 := b3.mono (by omega)
        simp (config := {maxSteps := 2000000, implicitDefEqProofs := false}) only [go_sem, ↓reduceIte, Nat.reduceEqDiff, Nat.reduceAdd, Nat.reduceMul, Nat.reduceLeDiff, Nat.reduceLT, Nat.reduceSub, IntWalk.iteOmega, IntWalk.toNatUp, reduceCtorEq, false_and, and_false, false_or, or_false, true_or, or_true, not_true_eq_false, not_false_eq_true, Bool.not_true, Bool.not_false, Bool.and_true, Bool.true_and, Bool.and_false, Bool.false_and, Bool.not_eq_true, beq_self_eq_true, Nat.add_zero, Int.reduceLE, Int.reduceLT, Int.reduceToNat, Int.reduceNeg]
        refine ⟨b3', ?_⟩
        refine (votesCopy_ok T _ _ l ((s.bel hB2).bel b3) hl).use ?_
        rintro w2 g4 ⟨o2, b4⟩
        have b3s := b3.size
        have b4s := b4.size
        have b4' : Bel (h.size + 2) g2 g4 := b3'.trans (b4.mono (by omega))
        have x2'' : g4[h.size + 2]? = some (.cells [.int .i64 0, .int .i64 0, .slice none 0 0].toArray 85) := b4.get (by omega) (b3.get z5 x2')
        have z8 := lt_of_get x2''
        have wf := fin g4 [.int .i64 b.r, .int .i64 b.n, .slice p1 l.length c1] rfl rfl x2''
        have hB4 := hB2.trans ((b3.trans (b4.mono b3s)).mono hB2.size)
        simp (config := {maxSteps := 2000000, implicitDefEqProofs := false}) only [go_sem, ↓reduceIte, Nat.reduceEqDiff, Nat.reduceAdd, Nat.reduceMul, Nat.reduceLeDiff, Nat.reduceLT, Nat.reduceSub, IntWalk.iteOmega, IntWalk.toNatUp, reduceCtorEq, false_and, and_false, false_or, or_false, true_or, or_true, not_true_eq_false, not_false_eq_true, Bool.not_true, Bool.not_false, Bool.and_true, Bool.true_and, Bool.and_false, Bool.false_and, Bool.not_eq_true, beq_self_eq_true, Nat.add_zero, Int.reduceLE, Int.reduceLT, Int.reduceToNat, Int.reduceNeg, e, wf, z8]
        refine ⟨b4', b4'.addSet (by omega) _, ⟨_, _, rfl, ?_, ?_⟩, ?_⟩
        · exact (((o1.bel b4 (Nat.le_refl _)).mono (B' := h.size + 1 + 1 + 1) (by omega)).setLow (by omega) _).mono (by omega)
        · exact ((o2.mono (B' := h.size + 1 + 1 + 1) (by omega)).setLow (by omega) _).mono (by omega)
        · exact hB4.addSet (by omega) _
    · have e : prErr p l b = 2 := by unfold prErr; rw [if_neg (by rw [e0]; decide), if_pos q1]
      have w2 := fin g1 [.int .i64 0, .int .i64 0, .slice none 0 0] rfl rfl x2
      simp (config := {maxSteps := 2000000, implicitDefEqProofs := false}) only [go_sem, ↓reduceIte, Nat.reduceEqDiff, Nat.reduceAdd, Nat.reduceMul, Nat.reduceLeDiff, Nat.reduceLT, Nat.reduceSub, IntWalk.iteOmega, IntWalk.toNatUp, reduceCtorEq, false_and, and_false, false_or, or_false, true_or, or_true, not_true_eq_false, not_false_eq_true, Bool.not_true, Bool.not_false, Bool.and_true, Bool.true_and, Bool.and_false, Bool.false_and, Bool.not_eq_true, beq_self_eq_true, Nat.add_zero, Int.reduceLE, Int.reduceLT, Int.reduceToNat, Int.reduceNeg, q1, e, w2, z1]
      exact ⟨⟨_, _, rfl, Ots.nil _ _ _ _ _, Ots.nil _ _ _ _ _⟩, (hB1.addSet (by omega) _).addP (by simp; omega) _⟩
  · have e : prErr p l b = 5 := by unfold prErr; rw [if_pos (by rw [e0]; decide)]
    have w2 := fin g1 [.int .i64 0, .int .i64 0, .slice none 0 0] rfl rfl x2
    simp (config := {maxSteps := 2000000, implicitDefEqProofs := false}) only [go_sem, ↓reduceIte, Nat.reduceEqDiff, Nat.reduceAdd, Nat.reduceMul, Nat.reduceLeDiff, Nat.reduceLT, Nat.reduceSub, IntWalk.iteOmega, IntWalk.toNatUp, reduceCtorEq, false_and, and_false, false_or, or_false, true_or, or_true, not_true_eq_false, not_false_eq_true, Bool.not_true, Bool.not_false, Bool.and_true, Bool.true_and, Bool.and_false, Bool.false_and, Bool.not_eq_true, beq_self_eq_true, Nat.add_zero, Int.reduceLE, Int.reduceLT, Int.reduceToNat, Int.reduceNeg, e0, e, w2, z1]
    exact ⟨⟨_, _, rfl, Ots.nil _ _ _ _ _, Ots.nil _ _ _ _ _⟩, hB1.addSet (by omega) _⟩
end Go.Proofs.YtnpacofabdgcdaaDoor
