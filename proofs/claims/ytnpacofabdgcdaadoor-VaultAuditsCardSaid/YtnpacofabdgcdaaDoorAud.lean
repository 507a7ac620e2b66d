/- The vault's audit: what the program computes; no condition but those in the statements. -/
import Derived.Test.YtnpacofabdgcdaaDoorChy
import Derived.Test.YtnpacofabdgcdaaDoorSame
namespace Go.Proofs.YtnpacofabdgcdaaDoor
open Go Go.V
set_option linter.unusedSimpArgs false
set_option linter.unusedVariables false
set_option maxRecDepth 100000
theorem audit_ok (T : World) (h : Hp) (u : Value) (l : List Etv) (s : TEnts h u l) (tk : Tk h) :
    CallsH Tryd.prog T 44 #[u] h fun v' h' => v' = .tuple [.int .i64 (if 200 < l.length then 0 else audR chn0 l 0), .int .i64 (if 200 < l.length then 1 else 0)].toArray ∧ Bel h.size h h' := by
  obtain ⟨p, cp, rfl, hc1⟩ := s.open
  refine CallsH.of_code2 (args := [_]) Tryd.func44 rfl rfl rfl rfl ?_
  by_cases big : 200 < l.length
  · have big' : (200 : Int) < l.length := by omega
    simp (config := {maxSteps := 2000000, implicitDefEqProofs := false}) only [go_sem, ↓reduceIte, Nat.reduceEqDiff, Nat.reduceAdd, Nat.reduceMul, Nat.reduceLeDiff, Nat.reduceLT, Nat.reduceSub, IntWalk.iteOmega, IntWalk.toNatUp, reduceCtorEq, false_and, and_false, false_or, or_false, true_or, or_true, not_true_eq_false, not_false_eq_true, Bool.not_true, Bool.not_false, Bool.and_true, Bool.true_and, Bool.and_false, Bool.false_and, Bool.not_eq_true, beq_self_eq_true, Nat.add_zero, Int.reduceLE, Int.reduceLT, Int.reduceToNat, Int.reduceNeg, big', big]
  have big' : ¬ (200 : Int) < l.length := by omega
  simp (config := {maxSteps := 2000000, implicitDefEqProofs := false}) only [go_sem, ↓reduceIte, Nat.reduceEqDiff, Nat.reduceAdd, Nat.reduceMul, Nat.reduceLeDiff, Nat.reduceLT, Nat.reduceSub, IntWalk.iteOmega, IntWalk.toNatUp, reduceCtorEq, false_and, and_false, false_or, or_false, true_or, or_true, not_true_eq_false, not_false_eq_true, Bool.not_true, Bool.not_false, Bool.and_true, Bool.true_and, Bool.and_false, Bool.false_and, Bool.not_eq_true, beq_self_eq_true, Nat.add_zero, Int.reduceLE, Int.reduceLT, Int.reduceToNat, Int.reduceNeg, big', big]
  have z32 : OBs (h.size + 1) 5 ((h.push (.cells storeZ.toArray 54)).push (.cells ((List.replicate 32 0).map bv).toArray 5)) (.slice (some ⟨h.size + 1, 0, none⟩) 32 32) (List.replicate 32 0) := by
    have := OBs.made (B := h.size + 1) (E := 5) (h := h.push (.cells storeZ.toArray 54)) (l := List.replicate 32 0) (by decide) (by simp)
    simp only [Array.size_push, List.length_replicate] at this
    exact this
  refine VS.loop' (fun F g => Bel h.size h g ∧ F 4 = .pointer (some ⟨h.size, 0, none⟩) ∧ F 15 = .slice p l.length cp ∧ F 16 = .int .i64 l.length ∧ ∃ (i : Nat) (st : Chn), i ≤ l.length ∧ F 17 = .int .i64 i ∧ audR chn0 l 0 = audR st (l.drop i) i ∧ ChnOk st ∧ g[h.size]? = some (.cells st.cs.toArray 54) ∧ (Bs h (F 5) st.sum ∨ OBs (h.size + 1) 5 g (F 5) st.sum))
    (fun F _ => l.length - (vi (F 17)).toNat) rfl ⟨?_, rfl, rfl, rfl, 0, chn0, by omega, rfl, rfl, chn0_ok, ?_, .inr z32⟩ ?_
  · (repeat' (first | exact Bel.refl _ _ | assumption | refine Bel.add ?_ _ | refine Bel.addSet ?_ (by first | omega | (simp; omega)) _ | refine Bel.trans (by assumption) ?_))
  · rw [Array.getElem?_push, if_neg (by simp), get_push_last]; rfl
  clear z32
  rintro F g ⟨hg, f4, f15, f16, i, st, hi, f17, hr, ok, x0, os⟩
  have gs := hg.size
  have g1 := lt_of_get x0
  by_cases hlt : i < l.length
  · have hlt' : (i : Int) < l.length := by omega
    obtain ⟨bb, oo, rfl, hbb, hcs⟩ := hc1 (by intro e; rw [e] at hlt; simp at hlt)
    obtain ⟨q1, m1, k1, r1, t1⟩ := hcs i hlt
    have hdr : l.drop i = l[i] :: l.drop (i + 1) := List.drop_eq_getElem_cons hlt
    generalize l[i] = y at *
    obtain ⟨x, ya, yb, ys⟩ := y
    simp only at r1 t1
    rw [hdr] at hr
    have r0 := ents_rd (i := i) (o := oo) (b := bb) r1 rfl 0 8 (by omega) (by omega)
    simp only [List.drop_zero, List.take_succ_cons, List.take_zero, Nat.add_zero] at r0
    rw [← rd_bel hg (by exact hbb)] at r0
    have hcl : st.cs.length = 40 := fitK_length ok.fit
    have tkc := take_len hcl
    have rs := rd_last x0 hcl
    have hne1 : ¬ h.size = g.size := by omega
    have osB : Bs g (F 5) st.sum := by
      rcases os with o | o
      · exact o.bel hg
      · exact o.bs
    simp (config := {maxSteps := 2000000, implicitDefEqProofs := false}) only [go_sem, ↓reduceIte, Nat.reduceEqDiff, Nat.reduceAdd, Nat.reduceMul, Nat.reduceLeDiff, Nat.reduceLT, Nat.reduceSub, IntWalk.iteOmega, IntWalk.toNatUp, reduceCtorEq, false_and, and_false, false_or, or_false, true_or, or_true, not_true_eq_false, not_false_eq_true, Bool.not_true, Bool.not_false, Bool.and_true, Bool.true_and, Bool.and_false, Bool.false_and, Bool.not_eq_true, beq_self_eq_true, Nat.add_zero, Int.reduceLE, Int.reduceLT, Int.reduceToNat, Int.reduceNeg, f4, f15, f16, f17, hlt', r0, rs, hne1, hcl, tkc]
    refine (vaultDo_ok T _ st.cs x.k x.c x.s x.n x.v ok.fit (store_ints ok.fit) (store_bools ok.fit)).use ?_
    rintro _ h1 ⟨hd, b1⟩
    obtain ⟨D, a, b, hL, fD, hz⟩ := doL_chn ok.fit x
    unfold DoRes at hd
    rw [hL] at hd
    subst hd
    have z1 : g.size + 1 ≤ h1.size := by have := b1.size; simp at this; omega
    have B1 : Bel g.size g h1 := (Bel.push (Nat.le_refl _) _).trans (b1.mono (by simp))
    have y9 : h1[g.size]? = some (.cells [.int .i64 x.k, .int .i64 x.c, .int .i64 x.s, .int .i64 x.n, .int .i64 x.v, .int .i64 ya, .int .i64 yb, .slice q1 m1 k1].toArray 112) := b1.get (by simp) get_push_last
    have D40 : D.length = 40 := fitK_length fD
    have hDone := fitK_one fD
    have tkD := take_len D40
    simp (config := {maxSteps := 2000000, implicitDefEqProofs := false}) only [go_sem, ↓reduceIte, Nat.reduceEqDiff, Nat.reduceAdd, Nat.reduceMul, Nat.reduceLeDiff, Nat.reduceLT, Nat.reduceSub, IntWalk.iteOmega, IntWalk.toNatUp, reduceCtorEq, false_and, and_false, false_or, or_false, true_or, or_true, not_true_eq_false, not_false_eq_true, Bool.not_true, Bool.not_false, Bool.and_true, Bool.true_and, Bool.and_false, Bool.false_and, Bool.not_eq_true, beq_self_eq_true, Nat.add_zero, Int.reduceLE, Int.reduceLT, Int.reduceToNat, Int.reduceNeg, D40, hDone, lput_full, tkD]
    obtain ⟨h2, hh2⟩ : ∃ h2 : Hp, h2 = (h1.push (.cells D.toArray 54)).push (.cells [.int .i64 a, .int .i64 b].toArray 50) := ⟨_, rfl⟩
    have b2 : Bel h1.size h1 h2 := by rw [hh2]; exact ((Bel.refl _ _).add _).add _
    have z2 : h2.size = h1.size + 2 := by rw [hh2]; simp
    have y10 : h2[h1.size]? = some (.cells D.toArray 54) := by rw [hh2, Array.getElem?_push, if_neg (by simp), get_push_last]
    have y11 : h2[h1.size + 1]? = some (.cells [.int .i64 a, .int .i64 b].toArray 50) := by rw [hh2, Array.getElem?_push, if_pos (by simp)]
    rw [← hh2]
    clear hh2
    have B2 : Bel g.size g h2 := B1.trans (b2.mono (by omega))
    have Bh2 := hg.trans (B2.mono gs)
    have x02 := B2.get (by omega) x0
    have y92 := b2.get (by omega) y9
    have c0 := rd_part y92 (o := 0) (n := 5) (by simp)
    have c5 := rd_part y92 (o := 5) (n := 2) (by simp)
    have c7 : V.hc h2 ⟨g.size, 7, none⟩ = some (.slice q1 m1 k1) := by rw [hc_last y92]; rfl
    simp only [List.drop_zero, List.take_succ_cons, List.take_zero, List.drop_succ_cons] at c0 c5
    have r11 := rd_last y11 (n := 2) rfl
    have n1 : g.size < h2.size := by omega
    have n2 : h1.size + 1 < h2.size := by omega
    have t2 : Bs h2 (.slice q1 m1 k1) ys := t1.bel Bh2
    have os2 : Bs h2 (F 5) st.sum := osB.bel B2
    have tk2 : Tk h2 := tk.bels Bh2
    refine VS.mono (N := fun F' g' => Bel h2.size h2 g' ∧ F' 4 = .pointer (some ⟨h.size, 0, none⟩) ∧ F' 15 = .slice (some ⟨bb, oo, none⟩) l.length cp ∧ F' 16 = .int .i64 l.length ∧ F' 17 = .int .i64 i ∧ F' 6 = .int .i64 i ∧ F' 7 = .pointer (some ⟨g.size, 0, none⟩) ∧ F' 8 = .pointer (some ⟨h1.size, 0, none⟩) ∧ F' 48 = .bool (decide (entBad st ⟨x, ya, yb, ys⟩))) ?_ ?_ (fun _ _ _ h => h) (fun _ _ h => h)
    · refine VS.w (h2.size) [] (.q 0 (.q 1 (.q 2 (.q 3 (.q 4 (.q 5 (.q 6 (.q 7 (.q 8 (.q 9 (.q 10 (.q 11 (.q 12 (.q 14 (.q 15 (.s 13 (.s 16 (.q 17 (.q 18 .nil))))))))))))))))))) mixed (by kernel_rfl) ?_
      by_cases e : chnE st.cs x = 0
      case neg =>
        have bad : entBad st ⟨x, ya, yb, ys⟩ := .inl e
        simp (config := {maxSteps := 2000000, implicitDefEqProofs := false}) only [go_sem, ↓reduceIte, Nat.reduceEqDiff, Nat.reduceAdd, Nat.reduceMul, Nat.reduceLeDiff, Nat.reduceLT, Nat.reduceSub, IntWalk.iteOmega, IntWalk.toNatUp, reduceCtorEq, false_and, and_false, false_or, or_false, true_or, or_true, not_true_eq_false, not_false_eq_true, Bool.not_true, Bool.not_false, Bool.and_true, Bool.true_and, Bool.and_false, Bool.false_and, Bool.not_eq_true, beq_self_eq_true, Nat.add_zero, Int.reduceLE, Int.reduceLT, Int.reduceToNat, Int.reduceNeg, e, r11, n1, n2, c0, c5, c7, bad, f4, f15, f16, f17]
      obtain ⟨ok', a', b', ea, eb, la, lb⟩ := step_ok ok e
      obtain ⟨hD, ha, hb⟩ := hz e
      rw [ea] at ha
      rw [eb] at hb
      have hst : chnL st.cs st.sum x = linkS st.sum x.k x.c x.s x.n x.v a' b' := by unfold chnL; rw [ea, eb]; rfl
      subst ha hb
      by_cases ea2 : (a' : Int) = ya
      case neg =>
        have bad : entBad st ⟨x, ya, yb, ys⟩ := .inr (.inl (fun hn => ea2 (ea.symm.trans hn.1)))
        simp (config := {maxSteps := 2000000, implicitDefEqProofs := false}) only [go_sem, ↓reduceIte, Nat.reduceEqDiff, Nat.reduceAdd, Nat.reduceMul, Nat.reduceLeDiff, Nat.reduceLT, Nat.reduceSub, IntWalk.iteOmega, IntWalk.toNatUp, reduceCtorEq, false_and, and_false, false_or, or_false, true_or, or_true, not_true_eq_false, not_false_eq_true, Bool.not_true, Bool.not_false, Bool.and_true, Bool.true_and, Bool.and_false, Bool.false_and, Bool.not_eq_true, beq_self_eq_true, Nat.add_zero, Int.reduceLE, Int.reduceLT, Int.reduceToNat, Int.reduceNeg, e, r11, n1, n2, c0, c5, c7, bad, ea2, f4, f15, f16, f17]
      by_cases eb2 : (b' : Int) = yb
      case neg =>
        have bad : entBad st ⟨x, ya, yb, ys⟩ := .inr (.inl (fun hn => eb2 (eb.symm.trans hn.2)))
        simp (config := {maxSteps := 2000000, implicitDefEqProofs := false}) only [go_sem, ↓reduceIte, Nat.reduceEqDiff, Nat.reduceAdd, Nat.reduceMul, Nat.reduceLeDiff, Nat.reduceLT, Nat.reduceSub, IntWalk.iteOmega, IntWalk.toNatUp, reduceCtorEq, false_and, and_false, false_or, or_false, true_or, or_true, not_true_eq_false, not_false_eq_true, Bool.not_true, Bool.not_false, Bool.and_true, Bool.true_and, Bool.and_false, Bool.false_and, Bool.not_eq_true, beq_self_eq_true, Nat.add_zero, Int.reduceLE, Int.reduceLT, Int.reduceToNat, Int.reduceNeg, e, r11, n1, n2, c0, c5, c7, bad, ea2, eb2, f4, f15, f16, f17]
      subst ea2 eb2
      simp (config := {maxSteps := 2000000, implicitDefEqProofs := false}) only [go_sem, ↓reduceIte, Nat.reduceEqDiff, Nat.reduceAdd, Nat.reduceMul, Nat.reduceLeDiff, Nat.reduceLT, Nat.reduceSub, IntWalk.iteOmega, IntWalk.toNatUp, reduceCtorEq, false_and, and_false, false_or, or_false, true_or, or_true, not_true_eq_false, not_false_eq_true, Bool.not_true, Bool.not_false, Bool.and_true, Bool.true_and, Bool.and_false, Bool.false_and, Bool.not_eq_true, beq_self_eq_true, Nat.add_zero, Int.reduceLE, Int.reduceLT, Int.reduceToNat, Int.reduceNeg, e, r11, n1, n2, c0, c5, c7, f4, f15, f16, f17]
      refine (link_ok T h2 _ st.sum os2 ok.sum x.k x.c x.s x.n x.v (chnE_zero e).2 a' b' la lb tk2).use ?_
      rintro w4 h4 ⟨o4, b4⟩
      rw [← hst] at o4
      have ls : (chnL st.cs st.sum x).length = 32 := by rw [hst]; exact linkS_length _ _ _ _ _ _ _ _
      simp (config := {maxSteps := 2000000, implicitDefEqProofs := false}) only [go_sem, ↓reduceIte, Nat.reduceEqDiff, Nat.reduceAdd, Nat.reduceMul, Nat.reduceLeDiff, Nat.reduceLT, Nat.reduceSub, IntWalk.iteOmega, IntWalk.toNatUp, reduceCtorEq, false_and, and_false, false_or, or_false, true_or, or_true, not_true_eq_false, not_false_eq_true, Bool.not_true, Bool.not_false, Bool.and_true, Bool.true_and, Bool.and_false, Bool.false_and, Bool.not_eq_true, beq_self_eq_true, Nat.add_zero, Int.reduceLE, Int.reduceLT, Int.reduceToNat, Int.reduceNeg, b4]
      refine (same_ok T h4 _ _ _ _ o4.bs (t2.bel b4) (by omega)).pure ?_
      by_cases es : chnL st.cs st.sum x = ys
      · have bad : ¬ entBad st ⟨x, (a' : Int), (b' : Int), ys⟩ := by
          rintro (hn | hn | hn)
          · exact hn e
          · exact hn ⟨ea, eb⟩
          · exact hn es
        simp (config := {maxSteps := 2000000, implicitDefEqProofs := false}) only [go_sem, ↓reduceIte, Nat.reduceEqDiff, Nat.reduceAdd, Nat.reduceMul, Nat.reduceLeDiff, Nat.reduceLT, Nat.reduceSub, IntWalk.iteOmega, IntWalk.toNatUp, reduceCtorEq, false_and, and_false, false_or, or_false, true_or, or_true, not_true_eq_false, not_false_eq_true, Bool.not_true, Bool.not_false, Bool.and_true, Bool.true_and, Bool.and_false, Bool.false_and, Bool.not_eq_true, beq_self_eq_true, Nat.add_zero, Int.reduceLE, Int.reduceLT, Int.reduceToNat, Int.reduceNeg, es, bad, b4, f4, f15, f16, f17]
      · have bad : entBad st ⟨x, (a' : Int), (b' : Int), ys⟩ := .inr (.inr es)
        simp (config := {maxSteps := 2000000, implicitDefEqProofs := false}) only [go_sem, ↓reduceIte, Nat.reduceEqDiff, Nat.reduceAdd, Nat.reduceMul, Nat.reduceLeDiff, Nat.reduceLT, Nat.reduceSub, IntWalk.iteOmega, IntWalk.toNatUp, reduceCtorEq, false_and, and_false, false_or, or_false, true_or, or_true, not_true_eq_false, not_false_eq_true, Bool.not_true, Bool.not_false, Bool.and_true, Bool.true_and, Bool.and_false, Bool.false_and, Bool.not_eq_true, beq_self_eq_true, Nat.add_zero, Int.reduceLE, Int.reduceLT, Int.reduceToNat, Int.reduceNeg, es, bad, b4, f4, f15, f16, f17]
    rintro F' g' ⟨B4, e4, e15, e16, e17, e6, e7, e8, e48⟩
    have Bg' : Bel h.size h g' := Bh2.trans (B4.mono (by omega))
    by_cases bad : entBad st ⟨x, ya, yb, ys⟩
    · rw [hr, audR_stop bad]
      simp (config := {maxSteps := 2000000, implicitDefEqProofs := false}) only [go_sem, ↓reduceIte, Nat.reduceEqDiff, Nat.reduceAdd, Nat.reduceMul, Nat.reduceLeDiff, Nat.reduceLT, Nat.reduceSub, IntWalk.iteOmega, IntWalk.toNatUp, reduceCtorEq, false_and, and_false, false_or, or_false, true_or, or_true, not_true_eq_false, not_false_eq_true, Bool.not_true, Bool.not_false, Bool.and_true, Bool.true_and, Bool.and_false, Bool.false_and, Bool.not_eq_true, beq_self_eq_true, Nat.add_zero, Int.reduceLE, Int.reduceLT, Int.reduceToNat, Int.reduceNeg, e48, bad, e6]
      exact Bg'
    rw [audR_go bad] at hr
    have e : chnE st.cs x = 0 := Classical.byContradiction fun hn => bad (.inl hn)
    have es : chnL st.cs st.sum x = ys := Classical.byContradiction fun hn => bad (.inr (.inr hn))
    obtain ⟨ok', a', b', ea, eb, la, lb⟩ := step_ok ok e
    obtain ⟨hD, ha, hb⟩ := hz e
    have z4 := B4.size
    have x03 := B4.get (by omega) x02
    have y103 := B4.get (by omega) y10
    have y93 := B4.get (by omega) y92
    have r10 := rd_last y103 D40
    have c73 : V.hc g' ⟨g.size, 7, none⟩ = some (.slice q1 m1 k1) := by rw [hc_last y93]; rfl
    have w1 := wr_get x03 0 D
    rw [if_pos ⟨by omega, hDone⟩, lput_full (by omega)] at w1
    have nn1 : ¬ g.size = h.size := by omega
    have nn2 : ¬ h1.size = h.size := by omega
    have nn3 : h.size < g'.size := by omega
    simp (config := {maxSteps := 2000000, implicitDefEqProofs := false}) only [go_sem, ↓reduceIte, Nat.reduceEqDiff, Nat.reduceAdd, Nat.reduceMul, Nat.reduceLeDiff, Nat.reduceLT, Nat.reduceSub, IntWalk.iteOmega, IntWalk.toNatUp, reduceCtorEq, false_and, and_false, false_or, or_false, true_or, or_true, not_true_eq_false, not_false_eq_true, Bool.not_true, Bool.not_false, Bool.and_true, Bool.true_and, Bool.and_false, Bool.false_and, Bool.not_eq_true, beq_self_eq_true, Nat.add_zero, Int.reduceLE, Int.reduceLT, Int.reduceToNat, Int.reduceNeg, e48, bad]
    refine VS.w (h.size) [] (.q 1 (.or 0 (.or 2 (.s 3 (.q 4 .nil)) (.s 3 (.s 2 (.q 4 .nil)))) (.s 2 (.s 0 (.s 3 (.q 4 .nil)))))) mixed (by kernel_rfl) ?_
    have xx : (g'.setIfInBounds h.size (.cells D.toArray 54))[h.size]? = some (.cells (stepC st x).cs.toArray 54) := by
      rw [Array.getElem?_setIfInBounds, if_pos rfl, if_pos (by omega), hD]; rfl
    have bs : Bs h (.slice q1 m1 k1) (stepC st x).sum := by
      show Bs h _ (chnL st.cs st.sum x)
      rw [es]; exact t1
    have Bz : Bel h.size h (g'.setIfInBounds h.size (.cells D.toArray 54)) := Bg'.addSet (Nat.le_refl _) _
    have ms : l.length - (i + 1) < l.length - i := by omega
    simp (config := {maxSteps := 2000000, implicitDefEqProofs := false}) only [go_sem, ↓reduceIte, Nat.reduceEqDiff, Nat.reduceAdd, Nat.reduceMul, Nat.reduceLeDiff, Nat.reduceLT, Nat.reduceSub, IntWalk.iteOmega, IntWalk.toNatUp, reduceCtorEq, false_and, and_false, false_or, or_false, true_or, or_true, not_true_eq_false, not_false_eq_true, Bool.not_true, Bool.not_false, Bool.and_true, Bool.true_and, Bool.and_false, Bool.false_and, Bool.not_eq_true, beq_self_eq_true, Nat.add_zero, Int.reduceLE, Int.reduceLT, Int.reduceToNat, Int.reduceNeg, e4, e7, e8, e17, r10, c73, w1, nn1, nn2, nn3]
    refine ⟨⟨⟨⟨Bz, e4, e15, e16, i + 1, stepC st x, hlt, rfl, hr, ok', xx, .inl bs⟩, ?_⟩, ⟨Bz, e4, e15, e16, i + 1, stepC st x, hlt, rfl, hr, ok', xx, .inl bs⟩, ?_⟩, ⟨Bz, e4, e15, e16, i + 1, stepC st x, hlt, rfl, hr, ok', xx, .inl bs⟩, ?_⟩
    · simp only [vi, updo_some, ↓reduceIte, f17]; omega
    · simp only [vi, updo_some, ↓reduceIte, f17]; omega
    · simp only [vi, updo_some, ↓reduceIte, f17]; omega
  · have hge : ¬ (i : Int) < l.length := by omega
    obtain rfl : i = l.length := by omega
    rw [List.drop_length] at hr
    rw [hr]
    simp (config := {maxSteps := 2000000, implicitDefEqProofs := false}) only [go_sem, ↓reduceIte, Nat.reduceEqDiff, Nat.reduceAdd, Nat.reduceMul, Nat.reduceLeDiff, Nat.reduceLT, Nat.reduceSub, IntWalk.iteOmega, IntWalk.toNatUp, reduceCtorEq, false_and, and_false, false_or, or_false, true_or, or_true, not_true_eq_false, not_false_eq_true, Bool.not_true, Bool.not_false, Bool.and_true, Bool.true_and, Bool.and_false, Bool.false_and, Bool.not_eq_true, beq_self_eq_true, Nat.add_zero, Int.reduceLE, Int.reduceLT, Int.reduceToNat, Int.reduceNeg, f15, f16, f17, hge]
    exact ⟨rfl, hg⟩
end Go.Proofs.YtnpacofabdgcdaaDoor
