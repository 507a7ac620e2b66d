/- A vote that is accepted: what the document computes; no condition but those in the statements. -/
import Derived.Test.YtiakfdpmapmifaaAcc
namespace Go.Proofs.Ytiakfdpmapmifaa
open Go Go.V
set_option linter.unusedSimpArgs false
set_option linter.unusedVariables false
set_option maxRecDepth 100000
theorem insR_few {l : List Vt} (hs : Srt l) (v : Vt) (h0 : 0 ≤ v.slot) (hl : ∀ x ∈ l, 0 ≤ x.slot) (s : Nat) : (insR l v s).length ≤ 2 * l.length + 1 := by
  rw [insR_eq hs v h0 hl]
  have a1 := List.length_filter_le (fun x => decide (x.slot < v.slot ∧ x.slot < (s : Int))) l
  have a2 := List.length_filter_le (fun x => decide (v.slot < x.slot ∧ x.slot < (s : Int))) l
  simp only [List.length_append]
  split
  · simp only [List.length_singleton]; omega
  · simp only [List.length_nil]; omega
theorem filter_snoc {l : List Vt} (q : Vt → Bool) {i : Nat} (hi : i < l.length) : (l.take (i + 1)).filter q = (l.take i).filter q ++ (if q l[i] = true then [l[i]] else []) := by
  rw [take_snoc l i hi, List.filter_append]
  congr 1
  simp only [List.filter_cons, List.filter_nil]
set_option maxHeartbeats 1000000 in
theorem acceptedBy_ok (T : World) (h : Hp) (p : Bal) (u : Value) (l : List Vt) (x : Vt) (s : Ts voteC 8 h u l) (hl : l.length ≤ 2199023255552) :
    CallsH Try.prog T 18 #[.agg (accC p u).toArray, .agg (voteC x).toArray] h fun v' h' => AcRes h.size h' v' p l x ∧ Bel h.size h h' := by
  obtain ⟨pu, cu, rfl, hcs⟩ := votes_open s
  refine CallsH.of_code2 (args := [_, _]) Try.func18 rfl rfl rfl rfl ?_
  unfold accC voteC
  simp (config := {maxSteps := 2000000, implicitDefEqProofs := false}) only [go_sem, ↓reduceIte, Nat.reduceEqDiff, Nat.reduceAdd, Nat.reduceMul, Nat.reduceLeDiff, Nat.reduceLT, Nat.reduceSub, IntWalk.iteOmega, IntWalk.toNatUp, reduceCtorEq, false_and, and_false, false_or, or_false, true_or, or_true, not_true_eq_false, not_false_eq_true, Bool.not_true, Bool.not_false, Bool.and_true, Bool.true_and, Bool.and_false, Bool.false_and, Bool.not_eq_true, beq_self_eq_true, Nat.add_zero, Int.reduceLE, Int.reduceLT, Int.reduceToNat, Int.reduceNeg]
  obtain ⟨h0, hh0⟩ : ∃ h0 : Hp, h0 = ((h.push (.cells (accC p (.slice pu l.length cu)).toArray 41)).push (.cells (voteC x).toArray 43)).push (.cells [.int .i64 0, .int .i64 0, .slice none 0 0].toArray 41) := ⟨_, rfl⟩
  have b0 : Bel h.size h h0 := by rw [hh0]; exact (((Bel.refl _ _).add _).add _).add _
  have s0 : h0.size = h.size + 3 := by rw [hh0]; simp
  have x0 : h0[h.size]? = some (.cells (accC p (.slice pu l.length cu)).toArray 41) := by
    rw [hh0, Array.getElem?_push, if_neg (by simp; omega), Array.getElem?_push, if_neg (by simp), get_push_last]
  have y0 : h0[h.size + 1]? = some (.cells (voteC x).toArray 43) := by
    rw [hh0, Array.getElem?_push, if_neg (by simp), Array.getElem?_push, if_pos (by simp)]
  have z0 : h0[h.size + 2]? = some (.cells [.int .i64 0, .int .i64 0, .slice none 0 0].toArray 41) := by
    rw [hh0, Array.getElem?_push, if_pos (by simp)]
  have e0 : ((h.push (.cells #[Value.int .i64 p.r, .int .i64 p.n, .slice pu l.length cu] 41)).push (.cells #[Value.int .i64 x.slot, .int .i64 x.b.r, .int .i64 x.b.n, .int .i64 x.k, .int .i64 x.c, .int .i64 x.s, .int .i64 x.nm, .int .i64 x.v] 43)).push (.cells #[Value.int .i64 0, .int .i64 0, .slice none 0 0] 41) = h0 := hh0.symm
  rw [e0]
  clear e0 hh0
  refine (acceptorFault_ok T h0 p _ l (s.bel b0) (by omega)).use ?_
  rintro _ h1 ⟨rfl, b1⟩
  have s1 := b1.size
  have B1 : Bel h.size h h1 := b0.trans (b1.mono (by omega))
  have x1 := b1.get (by omega) x0
  have y1 := b1.get (by omega) y0
  have z1 := b1.get (by omega) z0
  have fin : ∀ (G : Hp) (w : List Value), w.length = 3 → w.all oneC = true → G[h.size + 2]? = some (.cells [.int .i64 0, .int .i64 0, .slice none 0 0].toArray 41) → wr G ⟨h.size + 1 + 1, 0, none⟩ w = some (G.setIfInBounds (h.size + 1 + 1) (.cells w.toArray 41)) := by
    intro G w h3 h1 hx
    rw [wr_get (b := h.size + 1 + 1) hx 0 w, lput_full (by rw [h3]; rfl), if_pos ⟨by rw [h3]; simp, h1⟩]
  have hlt1 : h.size + 2 < h1.size := by omega
  unfold AcRes
  rcases accErr_five p l with e0 | e0
  case inr =>
    have e : acErr p l x = 5 := by unfold acErr; rw [if_pos (by rw [e0]; decide)]
    have w2 := fin h1 [.int .i64 0, .int .i64 0, .slice none 0 0] rfl rfl z1
    simp (config := {maxSteps := 2000000, implicitDefEqProofs := false}) only [go_sem, ↓reduceIte, Nat.reduceEqDiff, Nat.reduceAdd, Nat.reduceMul, Nat.reduceLeDiff, Nat.reduceLT, Nat.reduceSub, IntWalk.iteOmega, IntWalk.toNatUp, reduceCtorEq, false_and, and_false, false_or, or_false, true_or, or_true, not_true_eq_false, not_false_eq_true, Bool.not_true, Bool.not_false, Bool.and_true, Bool.true_and, Bool.and_false, Bool.false_and, Bool.not_eq_true, beq_self_eq_true, Nat.add_zero, Int.reduceLE, Int.reduceLT, Int.reduceToNat, Int.reduceNeg, e0, e, w2, hlt1]
    exact ⟨⟨_, rfl, Ots.nil _ _ _ _ _⟩, B1.addSet (by omega) _⟩
  have r1 : rd h1 ⟨h.size + 1, 0, none⟩ 8 = some (voteC x) := rd_last y1 rfl
  unfold voteC at r1
  simp (config := {maxSteps := 2000000, implicitDefEqProofs := false}) only [go_sem, ↓reduceIte, Nat.reduceEqDiff, Nat.reduceAdd, Nat.reduceMul, Nat.reduceLeDiff, Nat.reduceLT, Nat.reduceSub, IntWalk.iteOmega, IntWalk.toNatUp, reduceCtorEq, false_and, and_false, false_or, or_false, true_or, or_true, not_true_eq_false, not_false_eq_true, Bool.not_true, Bool.not_false, Bool.and_true, Bool.true_and, Bool.and_false, Bool.false_and, Bool.not_eq_true, beq_self_eq_true, Nat.add_zero, Int.reduceLE, Int.reduceLT, Int.reduceToNat, Int.reduceNeg, e0, r1]
  refine (voteMay_ok T h1 x).use ?_
  rintro _ h2 ⟨rfl, b2⟩
  have s2 := b2.size
  have B2 := B1.trans (b2.mono (by omega))
  have x2 := b2.get (by omega) x1
  have y2 := b2.get (by omega) y1
  have z2 := b2.get (by omega) z1
  have hlt2 : h.size + 2 < h2.size := by omega
  by_cases q1 : voteMay x
  case neg =>
    have e : acErr p l x = 2 := by unfold acErr; rw [if_neg (by rw [e0]; decide), if_pos q1]
    have w2 := fin h2 [.int .i64 0, .int .i64 0, .slice none 0 0] rfl rfl z2
    simp (config := {maxSteps := 2000000, implicitDefEqProofs := false}) only [go_sem, ↓reduceIte, Nat.reduceEqDiff, Nat.reduceAdd, Nat.reduceMul, Nat.reduceLeDiff, Nat.reduceLT, Nat.reduceSub, IntWalk.iteOmega, IntWalk.toNatUp, reduceCtorEq, false_and, and_false, false_or, or_false, true_or, or_true, not_true_eq_false, not_false_eq_true, Bool.not_true, Bool.not_false, Bool.and_true, Bool.true_and, Bool.and_false, Bool.false_and, Bool.not_eq_true, beq_self_eq_true, Nat.add_zero, Int.reduceLE, Int.reduceLT, Int.reduceToNat, Int.reduceNeg, q1, e, w2, hlt2]
    exact ⟨⟨_, rfl, Ots.nil _ _ _ _ _⟩, B2.addSet (by omega) _⟩
  have rb : rd h2 ⟨h.size + 1, 1, none⟩ 2 = some [.int .i64 x.b.r, .int .i64 x.b.n] := by rw [rd_part y2 (by simp [voteC])]; rfl
  have rp : rd h2 ⟨h.size, 0, none⟩ 2 = some [.int .i64 p.r, .int .i64 p.n] := by rw [rd_part x2 (by simp [accC])]; rfl
  simp (config := {maxSteps := 2000000, implicitDefEqProofs := false}) only [go_sem, ↓reduceIte, Nat.reduceEqDiff, Nat.reduceAdd, Nat.reduceMul, Nat.reduceLeDiff, Nat.reduceLT, Nat.reduceSub, IntWalk.iteOmega, IntWalk.toNatUp, reduceCtorEq, false_and, and_false, false_or, or_false, true_or, or_true, not_true_eq_false, not_false_eq_true, Bool.not_true, Bool.not_false, Bool.and_true, Bool.true_and, Bool.and_false, Bool.false_and, Bool.not_eq_true, beq_self_eq_true, Nat.add_zero, Int.reduceLE, Int.reduceLT, Int.reduceToNat, Int.reduceNeg, q1, rb, rp]
  refine (ballotBelow_ok T h2 x.b p).use ?_
  rintro _ h3 ⟨rfl, b3⟩
  have s3 := b3.size
  have B3 := B2.trans (b3.mono (by omega))
  have x3 := b3.get (by omega) x2
  have y3 := b3.get (by omega) y2
  have z3 := b3.get (by omega) z2
  have hlt3 : h.size + 2 < h3.size := by omega
  by_cases q2 : below x.b p
  case pos =>
    have e : acErr p l x = 7 := by unfold acErr; rw [if_neg (by rw [e0]; decide), if_neg (fun h => h q1), if_pos q2]
    have w2 := fin h3 [.int .i64 0, .int .i64 0, .slice none 0 0] rfl rfl z3
    simp (config := {maxSteps := 2000000, implicitDefEqProofs := false}) only [go_sem, ↓reduceIte, Nat.reduceEqDiff, Nat.reduceAdd, Nat.reduceMul, Nat.reduceLeDiff, Nat.reduceLT, Nat.reduceSub, IntWalk.iteOmega, IntWalk.toNatUp, reduceCtorEq, false_and, and_false, false_or, or_false, true_or, or_true, not_true_eq_false, not_false_eq_true, Bool.not_true, Bool.not_false, Bool.and_true, Bool.true_and, Bool.and_false, Bool.false_and, Bool.not_eq_true, beq_self_eq_true, Nat.add_zero, Int.reduceLE, Int.reduceLT, Int.reduceToNat, Int.reduceNeg, q2, e, w2, hlt3]
    exact ⟨⟨_, rfl, Ots.nil _ _ _ _ _⟩, B3.addSet (by omega) _⟩
  have e : acErr p l x = 0 := by unfold acErr; rw [if_neg (by rw [e0]; decide), if_neg (fun h => h q1), if_neg q2]
  have srt := accErr_srt e0
  have may := accErr_may e0
  have few := srt_few srt may
  have rb3 : rd h3 ⟨h.size + 1, 1, none⟩ 2 = some [.int .i64 x.b.r, .int .i64 x.b.n] := by rw [rd_part y3 (by simp [voteC])]; rfl
  simp (config := {maxSteps := 2000000, implicitDefEqProofs := false}) only [go_sem, ↓reduceIte, Nat.reduceEqDiff, Nat.reduceAdd, Nat.reduceMul, Nat.reduceLeDiff, Nat.reduceLT, Nat.reduceSub, IntWalk.iteOmega, IntWalk.toNatUp, reduceCtorEq, false_and, and_false, false_or, or_false, true_or, or_true, not_true_eq_false, not_false_eq_true, Bool.not_true, Bool.not_false, Bool.and_true, Bool.true_and, Bool.and_false, Bool.false_and, Bool.not_eq_true, beq_self_eq_true, Nat.add_zero, Int.reduceLE, Int.reduceLT, Int.reduceToNat, Int.reduceNeg, q2, rb3]
  obtain ⟨A, hA⟩ : ∃ A, A = h3.size := ⟨_, rfl⟩
  have hR := insR_few srt x q1.1.1 (fun y hy => (may y hy).1.1)
  have wA : ∀ (G : Hp) (w w' : Value), oneC w' = true → G[A]? = some (.cells [.int .i64 x.b.r, .int .i64 x.b.n, w].toArray 41) → wr1 G ⟨A, 2, none⟩ w' = some (G.setIfInBounds A (.cells [.int .i64 x.b.r, .int .i64 x.b.n, w'].toArray 41)) := by
    intro G w w' h1 hg
    rw [wr1_get hg, if_pos ⟨by simp, h1⟩]; rfl
  obtain ⟨g0, hg0⟩ : ∃ g0 : Hp, g0 = h3.push (.cells [.int .i64 x.b.r, .int .i64 x.b.n, .slice none 0 0].toArray 41) := ⟨_, rfl⟩
  have e0' : h3.push (.cells #[Value.int .i64 x.b.r, .int .i64 x.b.n, .slice none 0 0] 41) = g0 := hg0.symm
  rw [e0', ← hA]
  have bg0 : Bel A h3 g0 := by rw [hg0, hA]; exact Bel.push (Nat.le_refl _) _
  have xg0 : g0[A]? = some (.cells [.int .i64 x.b.r, .int .i64 x.b.n, .slice none 0 0].toArray 41) := by rw [hg0, hA]; exact get_push_last
  clear e0' hg0
  have n1 : ¬ h.size = A := by omega
  have n2 : ¬ h.size + 1 = A := by omega
  have n3 : ¬ h.size + 2 = A := by omega
  refine VS.loop' (fun F g => Bel A h3 g ∧ F 2 = .pointer (some ⟨h.size, 0, none⟩) ∧ F 3 = .pointer (some ⟨h.size + 1, 0, none⟩) ∧ F 4 = .pointer (some ⟨h.size + 1 + 1, 0, none⟩) ∧ F 7 = .pointer (some ⟨A, 0, none⟩) ∧ ∃ (k : Nat) (w : Value), k ≤ 40 ∧ F 8 = .int .i64 k ∧ g[A]? = some (.cells [.int .i64 x.b.r, .int .i64 x.b.n, w].toArray 41) ∧ Ots (A + 1) 43 voteC 8 g w (insR l x k))
    (fun F _ => 40 - (vi (F 8)).toNat) rfl ⟨bg0, rfl, rfl, rfl, rfl, 0, _, by omega, rfl, xg0, Ots.nil _ _ _ _ _⟩ ?_
  rintro F g ⟨hg, f2, f3, f4, f7, k, w, hk, f8, xg, ow⟩
  have hzA := lt_of_get xg
  have xx := hg.get (by omega) x3
  have xy := hg.get (by omega) y3
  have xz := hg.get (by omega) z3
  have ry : rd g ⟨h.size + 1, 0, none⟩ 8 = some (voteC x) := rd_last xy rfl
  have rs : hc g ⟨h.size + 1, 0, none⟩ = some (.int .i64 x.slot) := by rw [hc_last xy]; rfl
  have rw0 : hc g ⟨A, 2, none⟩ = some w := by rw [hc_last xg]; rfl
  obtain ⟨pw, cw, rfl, hcw⟩ := ow.open
  unfold voteC at ry
  by_cases hlt : k < 40
  · have hlt' : (k : Int) < 40 := by omega
    by_cases qs : (k : Int) = x.slot
    · have hone := Ts.one (E := 43) (h := g) (enc := voteC) (n := 8) x (fun _ => rfl) 1
      have eR : insR l x (k + 1) = insR l x k ++ [x] := by rw [insR, if_pos qs]
      have hRk := hR k
      rw [← qs] at rs
      simp (config := {maxSteps := 2000000, implicitDefEqProofs := false}) only [go_sem, ↓reduceIte, Nat.reduceEqDiff, Nat.reduceAdd, Nat.reduceMul, Nat.reduceLeDiff, Nat.reduceLT, Nat.reduceSub, IntWalk.iteOmega, IntWalk.toNatUp, reduceCtorEq, false_and, and_false, false_or, or_false, true_or, or_true, not_true_eq_false, not_false_eq_true, Bool.not_true, Bool.not_false, Bool.and_true, Bool.true_and, Bool.and_false, Bool.false_and, Bool.not_eq_true, beq_self_eq_true, Nat.add_zero, Int.reduceLE, Int.reduceLT, Int.reduceToNat, Int.reduceNeg, f2, f3, f7, f8, hlt', rs, rw0, ry]
      refine append_ts (E := 43) (B := A + 1) (n := 8) (bytes := 64) tsl39 Try.underlying39 tn43 tz43 rfl tb43 (fun _ => rfl) (ow.push _) (by simp; omega) hone (by simp only [List.length_singleton]; omega) (by omega) ?_
      intro w2 g2 o2 b2 _
      have B2 : Bel (A + 1) g g2 := (Bel.push hzA _).trans b2
      have xg2 := B2.get (Nat.lt_succ_self _) xg
      obtain ⟨pw2, cw2, rfl, _⟩ := o2.open
      have w2' := wA g2 _ (.slice pw2 (insR l x k ++ [x]).length cw2) rfl xg2
      have hz2 := lt_of_get xg2
      simp (config := {maxSteps := 2000000, implicitDefEqProofs := false}) only [go_sem, ↓reduceIte, Nat.reduceEqDiff, Nat.reduceAdd, Nat.reduceMul, Nat.reduceLeDiff, Nat.reduceLT, Nat.reduceSub, IntWalk.iteOmega, IntWalk.toNatUp, reduceCtorEq, false_and, and_false, false_or, or_false, true_or, or_true, not_true_eq_false, not_false_eq_true, Bool.not_true, Bool.not_false, Bool.and_true, Bool.true_and, Bool.and_false, Bool.false_and, Bool.not_eq_true, beq_self_eq_true, Nat.add_zero, Int.reduceLE, Int.reduceLT, Int.reduceToNat, Int.reduceNeg, f2, f3, f7, f8, w2']
      refine ⟨⟨(hg.trans (B2.mono (by omega))).addSet (Nat.le_refl _) _, f2, f3, f4, f7, k + 1, _, by omega, rfl, get_set xg2, ?_⟩, ?_⟩
      · rw [eR]; exact o2.setLow (Nat.lt_succ_self _) _
      · simp only [vi, updo_some, ↓reduceIte, f8]; omega
    · simp (config := {maxSteps := 2000000, implicitDefEqProofs := false}) only [go_sem, ↓reduceIte, Nat.reduceEqDiff, Nat.reduceAdd, Nat.reduceMul, Nat.reduceLeDiff, Nat.reduceLT, Nat.reduceSub, IntWalk.iteOmega, IntWalk.toNatUp, reduceCtorEq, false_and, and_false, false_or, or_false, true_or, or_true, not_true_eq_false, not_false_eq_true, Bool.not_true, Bool.not_false, Bool.and_true, Bool.true_and, Bool.and_false, Bool.false_and, Bool.not_eq_true, beq_self_eq_true, Nat.add_zero, Int.reduceLE, Int.reduceLT, Int.reduceToNat, Int.reduceNeg, f2, f3, f7, f8, hlt', rs, qs]
      refine VS.loop' (fun F g => Bel A h3 g ∧ F 2 = .pointer (some ⟨h.size, 0, none⟩) ∧ F 3 = .pointer (some ⟨h.size + 1, 0, none⟩) ∧ F 4 = .pointer (some ⟨h.size + 1 + 1, 0, none⟩) ∧ F 7 = .pointer (some ⟨A, 0, none⟩) ∧ F 8 = .int .i64 k ∧ ∃ (i : Nat) (w : Value), i ≤ l.length ∧ F 9 = .int .i64 i ∧ g[A]? = some (.cells [.int .i64 x.b.r, .int .i64 x.b.n, w].toArray 41) ∧ Ots (A + 1) 43 voteC 8 g w (insR l x k ++ (l.take i).filter (fun y => decide (y.slot = (k : Int)))))
        (fun F _ => l.length - (vi (F 9)).toNat) rfl ⟨hg, f2, f3, f4, f7, f8, 0, _, by omega, rfl, xg, by rw [List.take_zero, List.filter_nil, List.append_nil]; exact ow⟩ ?_
      clear f2 f3 f4 f7 f8 hg xx xy xz ry rs rw0 ow xg hzA hcw
      rintro F g ⟨hg, f2, f3, f4, f7, f8, i, w, hi, f9, xg, ow⟩
      have hzA := lt_of_get xg
      have xx := hg.get (by omega) x3
      have rv : hc g ⟨h.size, 2, none⟩ = some (.slice pu l.length cu) := by rw [hc_last xx]; rfl
      have rw0 : hc g ⟨A, 2, none⟩ = some w := by rw [hc_last xg]; rfl
      obtain ⟨pw, cw, rfl, hcw⟩ := ow.open
      have hRk := hR k
      by_cases hil : i < l.length
      · have hil' : (i : Int) < l.length := by omega
        obtain ⟨bb, oo, rfl, hbb, hcs0, hcs⟩ := hcs (by intro e; rw [e] at hil; simp at hil)
        have hBg : Bel h.size h g := B3.trans (hg.mono (by omega))
        have rm : rd g ⟨bb, oo + i * 8, none⟩ 8 = some (voteC l[i]) := by rw [rd_bel hBg (by exact hbb)]; exact hcs i hil
        have rc : hc g ⟨bb, oo + i * 8, none⟩ = some (.int .i64 l[i].slot) := by rw [hBg.hc (by exact hbb)]; exact hcs0 i hil
        have ef := filter_snoc (fun y => decide (y.slot = (k : Int))) hil
        obtain ⟨y, hy⟩ : ∃ y, y = l[i] := ⟨_, rfl⟩
        rw [← hy] at rm rc ef
        unfold voteC at rm
        by_cases qy : y.slot = (k : Int)
        · rw [if_pos (decide_eq_true qy)] at ef
          have hone := Ts.one (E := 43) (h := g) (enc := voteC) (n := 8) y (fun _ => rfl) 1
          have hfl := List.length_filter_le (fun y => decide (y.slot = (k : Int))) (l.take i)
          rw [List.length_take] at hfl
          have q1 : h.size < A + 1 := by omega
          have q2 : bb < A + 1 := by omega
          have q3 : A < A + 1 := by omega
          simp (config := {maxSteps := 2000000, implicitDefEqProofs := false}) only [go_sem, ↓reduceIte, Nat.reduceEqDiff, Nat.reduceAdd, Nat.reduceMul, Nat.reduceLeDiff, Nat.reduceLT, Nat.reduceSub, IntWalk.iteOmega, IntWalk.toNatUp, reduceCtorEq, false_and, and_false, false_or, or_false, true_or, or_true, not_true_eq_false, not_false_eq_true, Bool.not_true, Bool.not_false, Bool.and_true, Bool.true_and, Bool.and_false, Bool.false_and, Bool.not_eq_true, beq_self_eq_true, Nat.add_zero, Int.reduceLE, Int.reduceLT, Int.reduceToNat, Int.reduceNeg, f2, f7, f8, f9, rv, hil', rc, qy]
          refine VS.w (A + 1) [10] (.q 0 (.q 1 (.q 2 (.q 3 (.q 4 (.q 5 (.q 6 (.s 7 (.s 8 (.q 9 (.w 10 .nil))))))))))) mixed (by kernel_rfl) ?_
          simp (config := {maxSteps := 2000000, implicitDefEqProofs := false}) only [go_sem, ↓reduceIte, Nat.reduceEqDiff, Nat.reduceAdd, Nat.reduceMul, Nat.reduceLeDiff, Nat.reduceLT, Nat.reduceSub, IntWalk.iteOmega, IntWalk.toNatUp, reduceCtorEq, false_and, and_false, false_or, or_false, true_or, or_true, not_true_eq_false, not_false_eq_true, Bool.not_true, Bool.not_false, Bool.and_true, Bool.true_and, Bool.and_false, Bool.false_and, Bool.not_eq_true, beq_self_eq_true, Nat.add_zero, Int.reduceLE, Int.reduceLT, Int.reduceToNat, Int.reduceNeg, f2, f7, f8, f9, rv, rw0, hil', rm, q1, q2, q3]
          refine ⟨Bel.push hzA _, ?_⟩
          refine append_ts (E := 43) (B := A + 1) (n := 8) (bytes := 64) tsl39 Try.underlying39 tn43 tz43 rfl tb43 (fun _ => rfl) (ow.push _) (by simp; omega) hone (by simp only [List.length_append, List.length_singleton]; omega) (by omega) ?_
          intro w2 g2 o2 b2 _
          have B2 : Bel (A + 1) g g2 := (Bel.push hzA _).trans b2
          have xg2 := B2.get (Nat.lt_succ_self _) xg
          obtain ⟨pw2, cw2, rfl, _⟩ := o2.open
          have w2' := wA g2 _ (.slice pw2 ((insR l x k ++ (l.take i).filter (fun y => decide (y.slot = (k : Int)))) ++ [y]).length cw2) rfl xg2
          have hz2 := lt_of_get xg2
          simp (config := {maxSteps := 2000000, implicitDefEqProofs := false}) only [go_sem, ↓reduceIte, Nat.reduceEqDiff, Nat.reduceAdd, Nat.reduceMul, Nat.reduceLeDiff, Nat.reduceLT, Nat.reduceSub, IntWalk.iteOmega, IntWalk.toNatUp, reduceCtorEq, false_and, and_false, false_or, or_false, true_or, or_true, not_true_eq_false, not_false_eq_true, Bool.not_true, Bool.not_false, Bool.and_true, Bool.true_and, Bool.and_false, Bool.false_and, Bool.not_eq_true, beq_self_eq_true, Nat.add_zero, Int.reduceLE, Int.reduceLT, Int.reduceToNat, Int.reduceNeg, f2, f3, f7, f8, f9, w2', B2]
          refine ⟨⟨(hg.trans (B2.mono (by omega))).addSet (Nat.le_refl _) _, f2, f3, f4, f7, f8, i + 1, _, by omega, rfl, get_set xg2, ?_⟩, ?_⟩
          · rw [ef, ← List.append_assoc]; exact o2.setLow (Nat.lt_succ_self _) _
          · simp only [vi, updo_some, ↓reduceIte, f9]; omega
        · rw [if_neg (by simpa using qy), List.append_nil] at ef
          simp (config := {maxSteps := 2000000, implicitDefEqProofs := false}) only [go_sem, ↓reduceIte, Nat.reduceEqDiff, Nat.reduceAdd, Nat.reduceMul, Nat.reduceLeDiff, Nat.reduceLT, Nat.reduceSub, IntWalk.iteOmega, IntWalk.toNatUp, reduceCtorEq, false_and, and_false, false_or, or_false, true_or, or_true, not_true_eq_false, not_false_eq_true, Bool.not_true, Bool.not_false, Bool.and_true, Bool.true_and, Bool.and_false, Bool.false_and, Bool.not_eq_true, beq_self_eq_true, Nat.add_zero, Int.reduceLE, Int.reduceLT, Int.reduceToNat, Int.reduceNeg, f2, f7, f8, f9, rv, hil', rc, qy]
          refine ⟨⟨hg, f2, f3, f4, f7, f8, i + 1, _, by omega, rfl, xg, ?_⟩, ?_⟩
          · rw [ef]; exact ow
          · simp only [vi, updo_some, ↓reduceIte, f9]; omega
      · have hil' : ¬ (i : Int) < l.length := by omega
        obtain rfl : i = l.length := by omega
        rw [List.take_length] at ow
        have eR : insR l x (k + 1) = insR l x k ++ l.filter (fun y => decide (y.slot = (k : Int))) := by rw [insR, if_neg qs]
        simp (config := {maxSteps := 2000000, implicitDefEqProofs := false}) only [go_sem, ↓reduceIte, Nat.reduceEqDiff, Nat.reduceAdd, Nat.reduceMul, Nat.reduceLeDiff, Nat.reduceLT, Nat.reduceSub, IntWalk.iteOmega, IntWalk.toNatUp, reduceCtorEq, false_and, and_false, false_or, or_false, true_or, or_true, not_true_eq_false, not_false_eq_true, Bool.not_true, Bool.not_false, Bool.and_true, Bool.true_and, Bool.and_false, Bool.false_and, Bool.not_eq_true, beq_self_eq_true, Nat.add_zero, Int.reduceLE, Int.reduceLT, Int.reduceToNat, Int.reduceNeg, f2, f7, f8, f9, rv, hil']
        refine ⟨⟨hg, f2, f3, f4, f7, k + 1, _, by omega, rfl, xg, ?_⟩, ?_⟩
        · rw [eR]; rw [List.take_length]; exact ow
        · simp only [vi, updo_some, ↓reduceIte, f8]; omega
  · have hge : ¬ (k : Int) < 40 := by omega
    obtain rfl : k = 40 := by omega
    have eR := insR_done srt q1 may
    rw [eR] at ow hcw xg rw0
    have rA : rd g ⟨A, 0, none⟩ 3 = some [.int .i64 x.b.r, .int .i64 x.b.n, .slice pw (insV l x).length cw] := rd_last xg rfl
    have w2 := fin g [.int .i64 x.b.r, .int .i64 x.b.n, .slice pw (insV l x).length cw] rfl rfl xz
    have hltz := lt_of_get xz
    have c40 : ((40 : Nat) : Int) = 40 := rfl
    rw [c40] at f8
    simp (config := {maxSteps := 2000000, implicitDefEqProofs := false}) only [go_sem, ↓reduceIte, Nat.reduceEqDiff, Nat.reduceAdd, Nat.reduceMul, Nat.reduceLeDiff, Nat.reduceLT, Nat.reduceSub, IntWalk.iteOmega, IntWalk.toNatUp, reduceCtorEq, false_and, and_false, false_or, or_false, true_or, or_true, not_true_eq_false, not_false_eq_true, Bool.not_true, Bool.not_false, Bool.and_true, Bool.true_and, Bool.and_false, Bool.false_and, Bool.not_eq_true, beq_self_eq_true, Nat.add_zero, Int.reduceLE, Int.reduceLT, Int.reduceToNat, Int.reduceNeg, f3, f4, f7, f8, rA, w2, hltz, e]
    refine ⟨⟨_, rfl, ?_⟩, (B3.trans (hg.mono (by omega))).addSet (by omega) _⟩
    exact (ow.setLow (by omega) _).mono (by omega)
end Go.Proofs.Ytiakfdpmapmifaa
