/- The vault's chain: what the document computes; no condition but those in the statements. -/
import Derived.Test.YtnpacofabdgcdaaDoorChw
namespace Go.Proofs.YtnpacofabdgcdaaDoor
open Go Go.V
set_option linter.unusedSimpArgs false
set_option linter.unusedVariables false
set_option maxRecDepth 100000
theorem chainOf_ok (T : World) (h : Hp) (u : Value) (l : List Cmv) (s : Ts cmvC 5 h u l) :
    CallsH Tryd.prog T 41 #[u] h fun v' h' => (∃ w E D, v' = .tuple [w, .agg D.toArray, .int .i64 E].toArray ∧ (E, D) = (if 200 < l.length then (1, storeZ) else (chainE l, chainS l)) ∧ OEnts h.size h' w (if 200 < l.length then [] else chainO l)) ∧ Bel h.size h h' := by
  obtain ⟨p, cp, rfl, hc1⟩ := cmds_open s
  have hZ : storeZ.length = 40 := rfl
  have hZo : storeZ.all oneC = true := rfl
  refine CallsH.of_code2 (args := [_]) Tryd.func41 rfl rfl rfl rfl ?_
  by_cases big : 200 < l.length
  · have big' : (200 : Int) < l.length := by omega
    simp (config := {maxSteps := 2000000, implicitDefEqProofs := false}) only [go_sem, ↓reduceIte, Nat.reduceEqDiff, Nat.reduceAdd, Nat.reduceMul, Nat.reduceLeDiff, Nat.reduceLT, Nat.reduceSub, IntWalk.iteOmega, IntWalk.toNatUp, reduceCtorEq, false_and, and_false, false_or, or_false, true_or, or_true, not_true_eq_false, not_false_eq_true, Bool.not_true, Bool.not_false, Bool.and_true, Bool.true_and, Bool.and_false, Bool.false_and, Bool.not_eq_true, beq_self_eq_true, Nat.add_zero, Int.reduceLE, Int.reduceLT, Int.reduceToNat, Int.reduceNeg, big', big]
    exact ⟨_, _, _, rfl, rfl, OEnts.nil _ _⟩
  have big' : ¬ (200 : Int) < l.length := by omega
  simp (config := {maxSteps := 2000000, implicitDefEqProofs := false}) only [go_sem, ↓reduceIte, Nat.reduceEqDiff, Nat.reduceAdd, Nat.reduceMul, Nat.reduceLeDiff, Nat.reduceLT, Nat.reduceSub, IntWalk.iteOmega, IntWalk.toNatUp, reduceCtorEq, false_and, and_false, false_or, or_false, true_or, or_true, not_true_eq_false, not_false_eq_true, Bool.not_true, Bool.not_false, Bool.and_true, Bool.true_and, Bool.and_false, Bool.false_and, Bool.not_eq_true, beq_self_eq_true, Nat.add_zero, Int.reduceLE, Int.reduceLT, Int.reduceToNat, Int.reduceNeg, big', big]
  have hB0 : Bel h.size h ((h.push (.cells storeZ.toArray 54)).push (.cells storeZ.toArray 54)) := ((Bel.refl _ _).add _).add _
  refine (noughts_ok T _).use ?_
  rintro w0 h0 ⟨o0, b0⟩
  simp (config := {maxSteps := 2000000, implicitDefEqProofs := false}) only [go_sem, ↓reduceIte, Nat.reduceEqDiff, Nat.reduceAdd, Nat.reduceMul, Nat.reduceLeDiff, Nat.reduceLT, Nat.reduceSub, IntWalk.iteOmega, IntWalk.toNatUp, reduceCtorEq, false_and, and_false, false_or, or_false, true_or, or_true, not_true_eq_false, not_false_eq_true, Bool.not_true, Bool.not_false, Bool.and_true, Bool.true_and, Bool.and_false, Bool.false_and, Bool.not_eq_true, beq_self_eq_true, Nat.add_zero, Int.reduceLE, Int.reduceLT, Int.reduceToNat, Int.reduceNeg]
  refine VS.loop' (fun F g => Bel h.size h g ∧ F 0 = .slice p l.length cp ∧ F 3 = .pointer (some ⟨h.size, 0, none⟩) ∧ F 5 = .pointer (some ⟨h.size + 1, 0, none⟩) ∧ g[h.size]? = some (.cells storeZ.toArray 54) ∧ ∃ (i : Nat) (st : Chn), i ≤ l.length ∧ F 8 = .int .i64 i ∧ chnR chn0 l = chnR st (l.drop i) ∧ ChnOk st ∧ st.out.length = i ∧ g[h.size + 1]? = some (.cells st.cs.toArray 54) ∧ OEnts (h.size + 2) g (F 6) st.out ∧ OBs (h.size + 2) 5 g (F 7) st.sum)
    (fun F _ => l.length - (vi (F 8)).toNat) rfl ⟨hB0.trans (b0.mono (by simp; omega)), rfl, rfl, rfl, ?_, 0, chn0, by omega, rfl, rfl, chn0_ok, rfl, ?_, OEnts.nil _ _, o0.mono (by simp)⟩ ?_
  · refine b0.get (by simp; omega) ?_
    rw [Array.getElem?_push, if_neg (by simp), get_push_last]; rfl
  · refine b0.get (by simp) ?_
    rw [Array.getElem?_push, if_pos (by simp)]; rfl
  clear o0 b0 hB0
  rintro F g ⟨hg, f0, f3, f5, x0, i, st, hi, f8, hr, ok, ho, x1, oe, os⟩
  have gs := hg.size
  have g1 := lt_of_get x1
  by_cases hlt : i < l.length
  · have hlt' : (i : Int) < l.length := by omega
    obtain ⟨bb, oo, rfl, hbb, hcs⟩ := hc1 (by intro e; rw [e] at hlt; simp at hlt)
    have r1 := hcs i hlt
    obtain ⟨x, hx⟩ : ∃ x, x = l[i] := ⟨_, rfl⟩
    rw [← hx, ← rd_bel hg (by exact hbb)] at r1
    have hdr : l.drop i = x :: l.drop (i + 1) := by rw [hx]; exact List.drop_eq_getElem_cons hlt
    rw [hdr] at hr
    have hcl : st.cs.length = 40 := fitK_length ok.fit
    have tkc := take_len hcl
    have rs := rd_last x1 hcl
    have hb1 : bb < g.size := by omega
    simp (config := {maxSteps := 2000000, implicitDefEqProofs := false}) only [go_sem, ↓reduceIte, Nat.reduceEqDiff, Nat.reduceAdd, Nat.reduceMul, Nat.reduceLeDiff, Nat.reduceLT, Nat.reduceSub, IntWalk.iteOmega, IntWalk.toNatUp, reduceCtorEq, false_and, and_false, false_or, or_false, true_or, or_true, not_true_eq_false, not_false_eq_true, Bool.not_true, Bool.not_false, Bool.and_true, Bool.true_and, Bool.and_false, Bool.false_and, Bool.not_eq_true, beq_self_eq_true, Nat.add_zero, Int.reduceLE, Int.reduceLT, Int.reduceToNat, Int.reduceNeg, f0, f8, hlt']
    refine VS.mono (N := fun F' g' => Bel g.size g g' ∧ F' 0 = .slice (some ⟨bb, oo, none⟩) l.length cp ∧ F' 3 = F 3 ∧ F' 5 = F 5 ∧ F' 6 = F 6 ∧ F' 7 = F 7 ∧ F' 8 = .int .i64 i ∧ ∃ (D : List Value) (a b : Int) (b9 b10 : Nat), (fitK storeK D = true ∧ (chnE st.cs x = 0 → D = (doneC st.cs x).cells ∧ a = (doneC st.cs x).code ∧ b = (doneC st.cs x).val)) ∧ F' 11 = .int .i64 (chnE st.cs x) ∧ F' 9 = .pointer (some ⟨b9, 0, none⟩) ∧ F' 10 = .pointer (some ⟨b10, 0, none⟩) ∧ g.size ≤ b9 ∧ g.size ≤ b10 ∧ g'[b9]? = some (.cells D.toArray 54) ∧ g'[b10]? = some (.cells [.int .i64 a, .int .i64 b].toArray 50)) ?_ ?_ (fun _ _ _ h => h) (fun _ _ h => h)
    · refine VS.w (g.size) [] (.q 0 (.q 1 (.q 2 (.q 3 (.q 4 (.or 5 (.q 6 (.q 7 (.q 8 (.q 9 (.or 10 (.s 11 (.s 12 (.s 13 (.q 14 .nil)))) (.s 11 (.s 10 (.s 12 (.s 13 (.q 14 .nil)))))))))) (.or 10 (.or 5 (.q 6 (.q 7 (.q 8 (.q 9 (.s 11 (.s 12 (.s 13 (.q 14 .nil)))))))) (.s 11 (.s 5 (.q 6 (.q 7 (.q 8 (.q 9 (.s 12 (.s 13 (.q 14 .nil)))))))))) (.s 11 (.or 5 (.q 6 (.q 7 (.q 8 (.q 9 (.s 10 (.s 12 (.s 13 (.q 14 .nil)))))))) (.s 10 (.s 5 (.q 6 (.q 7 (.q 8 (.q 9 (.s 12 (.s 13 (.q 14 .nil)))))))))))))))))) mixed (by kernel_rfl) ?_
      simp (config := {maxSteps := 2000000, implicitDefEqProofs := false}) only [go_sem, ↓reduceIte, Nat.reduceEqDiff, Nat.reduceAdd, Nat.reduceMul, Nat.reduceLeDiff, Nat.reduceLT, Nat.reduceSub, IntWalk.iteOmega, IntWalk.toNatUp, reduceCtorEq, false_and, and_false, false_or, or_false, true_or, or_true, not_true_eq_false, not_false_eq_true, Bool.not_true, Bool.not_false, Bool.and_true, Bool.true_and, Bool.and_false, Bool.false_and, Bool.not_eq_true, beq_self_eq_true, Nat.add_zero, Int.reduceLE, Int.reduceLT, Int.reduceToNat, Int.reduceNeg, f0, f5, f8, r1, rs, g1, hb1, hcl, tkc]
      obtain ⟨D, a, b, hL, fD, hz⟩ := doL_chn ok.fit x
      have D40 : D.length = 40 := fitK_length fD
      have hDone := fitK_one fD
      refine ⟨?_, ⟨?_, ?_⟩, ?_, ?_⟩
      · refine (storeDone_ok T _ st.cs x.k x.c x.s x.n x.v ok.fit (store_ints ok.fit) (store_bools ok.fit)).use ?_
        rintro _ h1 ⟨hd, b1⟩
        unfold DoRes at hd
        rw [hL] at hd
        subst hd
        have s1 := b1.size
        have Bg : Bel g.size g h1 := b1
        simp (config := {maxSteps := 2000000, implicitDefEqProofs := false}) only [go_sem, ↓reduceIte, Nat.reduceEqDiff, Nat.reduceAdd, Nat.reduceMul, Nat.reduceLeDiff, Nat.reduceLT, Nat.reduceSub, IntWalk.iteOmega, IntWalk.toNatUp, reduceCtorEq, false_and, and_false, false_or, or_false, true_or, or_true, not_true_eq_false, not_false_eq_true, Bool.not_true, Bool.not_false, Bool.and_true, Bool.true_and, Bool.and_false, Bool.false_and, Bool.not_eq_true, beq_self_eq_true, Nat.add_zero, Int.reduceLE, Int.reduceLT, Int.reduceToNat, Int.reduceNeg, D40, hDone, lput_full, Bg]
        exact ⟨⟨f0, f5, f8, D, a, b, h1.size, h1.size + 1, ⟨fD, hz⟩, rfl, rfl, by omega, by omega, by simp only [Array.getElem?_push, Array.getElem?_setIfInBounds, Array.size_push, Array.size_setIfInBounds, IntWalk.iteOmega, ↓reduceIte], by simp only [Array.getElem?_push, Array.getElem?_setIfInBounds, Array.size_push, Array.size_setIfInBounds, IntWalk.iteOmega, ↓reduceIte]⟩, f0, f5, f8, D, a, b, h1.size + 1, h1.size, ⟨fD, hz⟩, rfl, rfl, by omega, by omega, by simp only [Array.getElem?_push, Array.getElem?_setIfInBounds, Array.size_push, Array.size_setIfInBounds, IntWalk.iteOmega, ↓reduceIte], by simp only [Array.getElem?_push, Array.getElem?_setIfInBounds, Array.size_push, Array.size_setIfInBounds, IntWalk.iteOmega, ↓reduceIte]⟩
      · refine (storeDone_ok T _ st.cs x.k x.c x.s x.n x.v ok.fit (store_ints ok.fit) (store_bools ok.fit)).use ?_
        rintro _ h1 ⟨hd, b1⟩
        unfold DoRes at hd
        rw [hL] at hd
        subst hd
        have s1 := b1.size
        have Bg : Bel g.size g h1 := by
          refine Bel.trans ?_ (b1.mono (by simp only [Array.size_push]; omega))
          (repeat' (first | exact Bel.refl _ _ | assumption | refine Bel.add ?_ _ | refine Bel.addSet ?_ (by first | omega | (simp; omega)) _ | refine Bel.trans (by assumption) ?_))
        simp only [Array.size_push] at s1
        have yZ : h1[g.size]? = some (.cells (storeZ : List Value).toArray 54) := b1.get (by simp only [Array.size_push]; omega) (by rw [get_push_last]; rfl)
        have wZ := wr_get yZ 0 D
        rw [if_pos ⟨by rw [D40]; decide, hDone⟩, lput_full (by rw [D40]; rfl)] at wZ
        have n1 : g.size < h1.size + 1 := by omega
        have n2 : ¬ g.size = h1.size := by omega
        simp (config := {maxSteps := 2000000, implicitDefEqProofs := false}) only [go_sem, ↓reduceIte, Nat.reduceEqDiff, Nat.reduceAdd, Nat.reduceMul, Nat.reduceLeDiff, Nat.reduceLT, Nat.reduceSub, IntWalk.iteOmega, IntWalk.toNatUp, reduceCtorEq, false_and, and_false, false_or, or_false, true_or, or_true, not_true_eq_false, not_false_eq_true, Bool.not_true, Bool.not_false, Bool.and_true, Bool.true_and, Bool.and_false, Bool.false_and, Bool.not_eq_true, beq_self_eq_true, Nat.add_zero, Int.reduceLE, Int.reduceLT, Int.reduceToNat, Int.reduceNeg, D40, hDone, lput_full, Bg, wZ, n1, n2]
        exact ⟨f0, f5, f8, D, a, b, g.size, h1.size, ⟨fD, hz⟩, rfl, rfl, by omega, by omega, by simp only [Array.getElem?_push, Array.getElem?_setIfInBounds, Array.size_push, Array.size_setIfInBounds, IntWalk.iteOmega, ↓reduceIte], by simp only [Array.getElem?_push, Array.getElem?_setIfInBounds, Array.size_push, Array.size_setIfInBounds, IntWalk.iteOmega, ↓reduceIte]⟩
      · refine (storeDone_ok T _ st.cs x.k x.c x.s x.n x.v ok.fit (store_ints ok.fit) (store_bools ok.fit)).use ?_
        rintro _ h1 ⟨hd, b1⟩
        unfold DoRes at hd
        rw [hL] at hd
        subst hd
        have s1 := b1.size
        have Bg : Bel g.size g h1 := by
          refine Bel.trans ?_ (b1.mono (by simp only [Array.size_push]; omega))
          (repeat' (first | exact Bel.refl _ _ | assumption | refine Bel.add ?_ _ | refine Bel.addSet ?_ (by first | omega | (simp; omega)) _ | refine Bel.trans (by assumption) ?_))
        simp only [Array.size_push] at s1
        have yZ : h1[g.size]? = some (.cells (storeZ : List Value).toArray 54) := b1.get (by simp only [Array.size_push]; omega) (by rw [Array.getElem?_push, if_neg (by simp), get_push_last]; rfl)
        have yA : h1[g.size + 1]? = some (.cells ([.int .i64 0, .int .i64 0] : List Value).toArray 50) := b1.get (by simp only [Array.size_push]; omega) (by rw [Array.getElem?_push, if_pos (by simp)])
        have wZ := wr_get yZ 0 D
        rw [if_pos ⟨by rw [D40]; decide, hDone⟩, lput_full (by rw [D40]; rfl)] at wZ
        have yA2 : (h1.setIfInBounds g.size (.cells D.toArray 54))[g.size + 1]? = some (.cells ([.int .i64 0, .int .i64 0] : List Value).toArray 50) := by rw [Array.getElem?_setIfInBounds, if_neg (by omega)]; exact yA
        have wA := wr_get yA2 0 [.int .i64 a, .int .i64 b]
        rw [if_pos ⟨by simp, rfl⟩] at wA
        simp only [lput] at wA
        have n1 : g.size < h1.size + 1 := by omega
        have n2 : ¬ g.size = h1.size := by omega
        have n3 : ¬ g.size + 1 = h1.size := by omega
        simp (config := {maxSteps := 2000000, implicitDefEqProofs := false}) only [go_sem, ↓reduceIte, Nat.reduceEqDiff, Nat.reduceAdd, Nat.reduceMul, Nat.reduceLeDiff, Nat.reduceLT, Nat.reduceSub, IntWalk.iteOmega, IntWalk.toNatUp, reduceCtorEq, false_and, and_false, false_or, or_false, true_or, or_true, not_true_eq_false, not_false_eq_true, Bool.not_true, Bool.not_false, Bool.and_true, Bool.true_and, Bool.and_false, Bool.false_and, Bool.not_eq_true, beq_self_eq_true, Nat.add_zero, Int.reduceLE, Int.reduceLT, Int.reduceToNat, Int.reduceNeg, D40, hDone, lput_full, Bg, wZ, wA, n1, n2, n3]
        exact ⟨f0, f5, f8, D, a, b, g.size, g.size + 1, ⟨fD, hz⟩, rfl, rfl, by omega, by omega, by simp only [Array.getElem?_push, Array.getElem?_setIfInBounds, Array.size_push, Array.size_setIfInBounds, IntWalk.iteOmega, ↓reduceIte], by simp only [Array.getElem?_push, Array.getElem?_setIfInBounds, Array.size_push, Array.size_setIfInBounds, IntWalk.iteOmega, ↓reduceIte]⟩
      · refine (storeDone_ok T _ st.cs x.k x.c x.s x.n x.v ok.fit (store_ints ok.fit) (store_bools ok.fit)).use ?_
        rintro _ h1 ⟨hd, b1⟩
        unfold DoRes at hd
        rw [hL] at hd
        subst hd
        have s1 := b1.size
        have Bg : Bel g.size g h1 := by
          refine Bel.trans ?_ (b1.mono (by simp only [Array.size_push]; omega))
          (repeat' (first | exact Bel.refl _ _ | assumption | refine Bel.add ?_ _ | refine Bel.addSet ?_ (by first | omega | (simp; omega)) _ | refine Bel.trans (by assumption) ?_))
        simp only [Array.size_push] at s1
        have yA : h1[g.size]? = some (.cells ([.int .i64 0, .int .i64 0] : List Value).toArray 50) := b1.get (by simp only [Array.size_push]; omega) (by rw [get_push_last])
        have wA := wr_get yA 0 [.int .i64 a, .int .i64 b]
        rw [if_pos ⟨by simp, rfl⟩] at wA
        simp only [lput] at wA
        have n1 : g.size < h1.size + 1 := by omega
        have n2 : ¬ g.size = h1.size := by omega
        simp (config := {maxSteps := 2000000, implicitDefEqProofs := false}) only [go_sem, ↓reduceIte, Nat.reduceEqDiff, Nat.reduceAdd, Nat.reduceMul, Nat.reduceLeDiff, Nat.reduceLT, Nat.reduceSub, IntWalk.iteOmega, IntWalk.toNatUp, reduceCtorEq, false_and, and_false, false_or, or_false, true_or, or_true, not_true_eq_false, not_false_eq_true, Bool.not_true, Bool.not_false, Bool.and_true, Bool.true_and, Bool.and_false, Bool.false_and, Bool.not_eq_true, beq_self_eq_true, Nat.add_zero, Int.reduceLE, Int.reduceLT, Int.reduceToNat, Int.reduceNeg, D40, hDone, lput_full, Bg, wA, n1, n2]
        exact ⟨f0, f5, f8, D, a, b, h1.size, g.size, ⟨fD, hz⟩, rfl, rfl, by omega, by omega, by simp only [Array.getElem?_push, Array.getElem?_setIfInBounds, Array.size_push, Array.size_setIfInBounds, IntWalk.iteOmega, ↓reduceIte], by simp only [Array.getElem?_push, Array.getElem?_setIfInBounds, Array.size_push, Array.size_setIfInBounds, IntWalk.iteOmega, ↓reduceIte]⟩
      · refine (storeDone_ok T _ st.cs x.k x.c x.s x.n x.v ok.fit (store_ints ok.fit) (store_bools ok.fit)).use ?_
        rintro _ h1 ⟨hd, b1⟩
        unfold DoRes at hd
        rw [hL] at hd
        subst hd
        have s1 := b1.size
        have Bg : Bel g.size g h1 := by
          refine Bel.trans ?_ (b1.mono (by simp only [Array.size_push]; omega))
          (repeat' (first | exact Bel.refl _ _ | assumption | refine Bel.add ?_ _ | refine Bel.addSet ?_ (by first | omega | (simp; omega)) _ | refine Bel.trans (by assumption) ?_))
        simp only [Array.size_push] at s1
        have yA : h1[g.size]? = some (.cells ([.int .i64 0, .int .i64 0] : List Value).toArray 50) := b1.get (by simp only [Array.size_push]; omega) (by rw [Array.getElem?_push, if_neg (by simp), get_push_last])
        have yZ : h1[g.size + 1]? = some (.cells (storeZ : List Value).toArray 54) := b1.get (by simp only [Array.size_push]; omega) (by rw [Array.getElem?_push, if_pos (by simp)]; rfl)
        have wZ := wr_get yZ 0 D
        rw [if_pos ⟨by rw [D40]; decide, hDone⟩, lput_full (by rw [D40]; rfl)] at wZ
        have yA2 : (h1.setIfInBounds (g.size + 1) (.cells D.toArray 54))[g.size]? = some (.cells ([.int .i64 0, .int .i64 0] : List Value).toArray 50) := by rw [Array.getElem?_setIfInBounds, if_neg (by omega)]; exact yA
        have wA := wr_get yA2 0 [.int .i64 a, .int .i64 b]
        rw [if_pos ⟨by simp, rfl⟩] at wA
        simp only [lput] at wA
        have n1 : g.size < h1.size + 1 := by omega
        have n2 : ¬ g.size = h1.size := by omega
        have n3 : ¬ g.size + 1 = h1.size := by omega
        simp (config := {maxSteps := 2000000, implicitDefEqProofs := false}) only [go_sem, ↓reduceIte, Nat.reduceEqDiff, Nat.reduceAdd, Nat.reduceMul, Nat.reduceLeDiff, Nat.reduceLT, Nat.reduceSub, IntWalk.iteOmega, IntWalk.toNatUp, reduceCtorEq, false_and, and_false, false_or, or_false, true_or, or_true, not_true_eq_false, not_false_eq_true, Bool.not_true, Bool.not_false, Bool.and_true, Bool.true_and, Bool.and_false, Bool.false_and, Bool.not_eq_true, beq_self_eq_true, Nat.add_zero, Int.reduceLE, Int.reduceLT, Int.reduceToNat, Int.reduceNeg, D40, hDone, lput_full, Bg, wA, wZ, n1, n2, n3]
        exact ⟨f0, f5, f8, D, a, b, g.size + 1, g.size, ⟨fD, hz⟩, rfl, rfl, by omega, by omega, by simp only [Array.getElem?_push, Array.getElem?_setIfInBounds, Array.size_push, Array.size_setIfInBounds, IntWalk.iteOmega, ↓reduceIte], by simp only [Array.getElem?_push, Array.getElem?_setIfInBounds, Array.size_push, Array.size_setIfInBounds, IntWalk.iteOmega, ↓reduceIte]⟩
    clear r1 rs
    rintro F' g' ⟨B9, e0, e3, e5, e6, e7, e8, D, a, b, c9, c10, ⟨fD, hz⟩, e11, e9, e10, g9, g10, y9, y10⟩
    rw [f3] at e3
    rw [f5] at e5
    have z9 := B9.size
    have k9 := lt_of_get y9
    have k10 := lt_of_get y10
    have D40 : D.length = 40 := fitK_length fD
    have hDone := fitK_one fD
    have tkD := take_len D40
    have Bh2 := hg.trans (B9.mono gs)
    have x02 := B9.get (by omega) x0
    have x12 := B9.get (by omega) x1
    have os2 := os.bel B9 (Nat.le_refl _)
    have oe2 := oe.bel B9 (Nat.le_refl _)
    rw [← e7] at os2
    rw [← e6] at oe2
    clear f0 f3 f5 oe os x0 x1 e6 e7
    by_cases e : chnE st.cs x = 0
    case neg =>
      have hE : chnR chn0 l = (chnE st.cs x, st) := by rw [hr, chnR_stop e]
      have eE : chainE l = chnE st.cs x := by unfold chainE; rw [hE]
      have eS : chainS l = storeZ := by unfold chainS; rw [eE, if_neg e]
      have eO : chainO l = [] := by unfold chainO; rw [eE, if_neg e]
      have w0 := wr_get x02 0 storeZ
      rw [if_pos ⟨by simp, rfl⟩, lput_full rfl] at w0
      have w0' : wr g' ⟨h.size, 0, none⟩ [.int .i64 0, .int .i64 0, .int .i64 0, .int .i64 0, .int .i64 0, .int .i64 0, .int .i64 0, .int .i64 0, .int .i64 0, .int .i64 0, .int .i64 0, .int .i64 0, .int .i64 0, .int .i64 0, .int .i64 0, .int .i64 0, .int .i64 0, .int .i64 0, .int .i64 0, .int .i64 0, .int .i64 0, .int .i64 0, .int .i64 0, .int .i64 0, .int .i64 0, .int .i64 0, .int .i64 0, .int .i64 0, .int .i64 0, .int .i64 0, .int .i64 0, .int .i64 0, .bool false, .bool false, .bool false, .bool false, .bool false, .bool false, .bool false, .bool false] = some (g'.setIfInBounds h.size (.cells storeZ.toArray 54)) := w0
      have hl2 : h.size < g'.size := by omega
      rw [eE, eS, eO]
      simp (config := {maxSteps := 2000000, implicitDefEqProofs := false}) only [go_sem, ↓reduceIte, Nat.reduceEqDiff, Nat.reduceAdd, Nat.reduceMul, Nat.reduceLeDiff, Nat.reduceLT, Nat.reduceSub, IntWalk.iteOmega, IntWalk.toNatUp, reduceCtorEq, false_and, and_false, false_or, or_false, true_or, or_true, not_true_eq_false, not_false_eq_true, Bool.not_true, Bool.not_false, Bool.and_true, Bool.true_and, Bool.and_false, Bool.false_and, Bool.not_eq_true, beq_self_eq_true, Nat.add_zero, Int.reduceLE, Int.reduceLT, Int.reduceToNat, Int.reduceNeg, e3, e11, e, w0', hl2, hZ, hZo]
      exact ⟨⟨_, _, _, rfl, rfl, OEnts.nil _ _⟩, Bh2.addSet (Nat.le_refl _) _⟩
    have r10 := rd_last y9 D40
    have w1 := wr_get x12 0 D
    rw [if_pos ⟨by omega, hDone⟩, lput_full (by omega)] at w1
    obtain ⟨h3, hh3⟩ : ∃ h3 : Hp, h3 = g'.setIfInBounds (h.size + 1) (.cells D.toArray 54) := ⟨_, rfl⟩
    rw [← hh3] at w1
    have z3 : h3.size = g'.size := by rw [hh3]; simp
    have x13 : h3[h.size + 1]? = some (.cells D.toArray 54) := by rw [hh3, Array.getElem?_setIfInBounds, if_pos rfl, if_pos (by omega)]
    have n3 : ∀ k, k ≠ h.size + 1 → h3[k]? = g'[k]? := fun k hk => by rw [hh3, Array.getElem?_setIfInBounds, if_neg (by omega)]
    have x03 : h3[h.size]? = some (.cells storeZ.toArray 54) := by rw [n3 _ (by omega)]; exact x02
    have y103 := (n3 c10 (by omega)).trans y10
    have Bh3 : Bel h.size h h3 := by rw [hh3]; exact Bh2.addSet (by omega) _
    have os3 : OBs (h.size + 2) 5 h3 (F' 7) st.sum := by rw [hh3]; exact os2.setLow (by omega) _
    have oe3 : OEnts (h.size + 2) h3 (F' 6) st.out := by rw [hh3]; exact oe2.setLow (by omega) _
    clear hh3
    obtain ⟨p7, c7, hf7, _⟩ := os3.open
    have r1 := hcs i hlt
    rw [← hx, ← rd_bel Bh3 (by exact hbb)] at r1
    have r11 := rd_last y103 (n := 2) rfl
    obtain ⟨ok', a', b', ea, eb, la, lb⟩ := step_ok ok e
    obtain ⟨hD, ha, hb⟩ := hz e
    rw [ea] at ha
    rw [eb] at hb
    have hst : chnL st.cs st.sum x = linkS st.sum x.k x.c x.s x.n x.v a' b' := by unfold chnL; rw [ea, eb]; rfl
    subst ha hb
    rw [hf7] at os3
    simp (config := {maxSteps := 2000000, implicitDefEqProofs := false}) only [go_sem, ↓reduceIte, Nat.reduceEqDiff, Nat.reduceAdd, Nat.reduceMul, Nat.reduceLeDiff, Nat.reduceLT, Nat.reduceSub, IntWalk.iteOmega, IntWalk.toNatUp, reduceCtorEq, false_and, and_false, false_or, or_false, true_or, or_true, not_true_eq_false, not_false_eq_true, Bool.not_true, Bool.not_false, Bool.and_true, Bool.true_and, Bool.and_false, Bool.false_and, Bool.not_eq_true, beq_self_eq_true, Nat.add_zero, Int.reduceLE, Int.reduceLT, Int.reduceToNat, Int.reduceNeg, e5, e9, e11, hf7, e, r10, w1]
    have k1 : bb < h3.size := by omega
    have k2 : c10 < h3.size := by omega
    refine VS.w (h3.size) [] (.q 0 (.q 1 (.q 2 (.q 3 (.q 4 (.q 5 (.s 6 (.q 7 .nil)))))))) mixed (by kernel_rfl) ?_
    simp (config := {maxSteps := 2000000, implicitDefEqProofs := false}) only [go_sem, ↓reduceIte, Nat.reduceEqDiff, Nat.reduceAdd, Nat.reduceMul, Nat.reduceLeDiff, Nat.reduceLT, Nat.reduceSub, IntWalk.iteOmega, IntWalk.toNatUp, reduceCtorEq, false_and, and_false, false_or, or_false, true_or, or_true, not_true_eq_false, not_false_eq_true, Bool.not_true, Bool.not_false, Bool.and_true, Bool.true_and, Bool.and_false, Bool.false_and, Bool.not_eq_true, beq_self_eq_true, Nat.add_zero, Int.reduceLE, Int.reduceLT, Int.reduceToNat, Int.reduceNeg, e0, e8, e10, hf7, r1, r11, k1, k2, hlt']
    refine (linked_ok T h3 _ st.sum os3.bs ok.sum x.k x.c x.s x.n x.v (chnE_zero e).2 a' b' la lb).use ?_
    rintro w4 h4 ⟨o4, b4⟩
    have z4 := b4.size
    have Bh4 := Bh3.trans (b4.mono Bh3.size)
    have x04 := b4.get (by omega) x03
    have x14 := b4.get (by omega) x13
    have y104 := b4.get (by omega) y103
    have r12 := hcs i hlt
    rw [← hx, ← rd_bel Bh4 (by exact hbb)] at r12
    have r114 := rd_last y104 (n := 2) rfl
    have oe4 := oe3.bel b4 (Nat.le_refl _)
    obtain ⟨p6, c6, hf6⟩ := oe3.open
    rw [hf6] at oe4
    rw [← hst] at o4
    have ls : (chnL st.cs st.sum x).length = 32 := by rw [hst]; exact linkS_length _ _ _ _ _ _ _ _
    obtain ⟨pw4, cw4, rfl, _⟩ := o4.open
    have k3 : bb < h4.size := by omega
    have k4 : c10 < h4.size := by omega
    simp (config := {maxSteps := 2000000, implicitDefEqProofs := false}) only [go_sem, ↓reduceIte, Nat.reduceEqDiff, Nat.reduceAdd, Nat.reduceMul, Nat.reduceLeDiff, Nat.reduceLT, Nat.reduceSub, IntWalk.iteOmega, IntWalk.toNatUp, reduceCtorEq, false_and, and_false, false_or, or_false, true_or, or_true, not_true_eq_false, not_false_eq_true, Bool.not_true, Bool.not_false, Bool.and_true, Bool.true_and, Bool.and_false, Bool.false_and, Bool.not_eq_true, beq_self_eq_true, Nat.add_zero, Int.reduceLE, Int.reduceLT, Int.reduceToNat, Int.reduceNeg, b4]
    refine VS.w (h4.size) [10, 11] (.q 0 (.q 1 (.q 2 (.q 3 (.q 4 (.q 5 (.q 6 (.s 7 (.q 8 (.s 9 (.w 10 (.w 11 .nil)))))))))))) mixed (by kernel_rfl) ?_
    simp (config := {maxSteps := 2000000, implicitDefEqProofs := false}) only [go_sem, ↓reduceIte, Nat.reduceEqDiff, Nat.reduceAdd, Nat.reduceMul, Nat.reduceLeDiff, Nat.reduceLT, Nat.reduceSub, IntWalk.iteOmega, IntWalk.toNatUp, reduceCtorEq, false_and, and_false, false_or, or_false, true_or, or_true, not_true_eq_false, not_false_eq_true, Bool.not_true, Bool.not_false, Bool.and_true, Bool.true_and, Bool.and_false, Bool.false_and, Bool.not_eq_true, beq_self_eq_true, Nat.add_zero, Int.reduceLE, Int.reduceLT, Int.reduceToNat, Int.reduceNeg, e0, e8, e10, hf6, r12, r114, k3, k4, hlt']
    refine (joined_ok T h4 _ _ _ [] o4.bs (OBs.nil 0 5 h4).bs (by simp only [List.length_nil]; omega)).use ?_
    rintro w5 h5 ⟨o5, b5⟩
    rw [List.append_nil] at o5
    obtain ⟨p5, c5, rfl, _⟩ := o5.open
    have z5 := b5.size
    have oe5 := oe4.bel b5 (Nat.le_refl _)
    obtain ⟨es, s1, s2⟩ := oe5.ex
    have les := s2.length
    have hone := Ts.one (E := 112) (h := h5) (enc := entC) (n := 8) ⟨x, a', b', p5, (chnL st.cs st.sum x).length, c5⟩ (fun _ => rfl) 1
    unfold entC at hone
    have B5p : Bel h4.size h4 (h5.push (.cells [.int .i64 x.k, .int .i64 x.c, .int .i64 x.s, .int .i64 x.n, .int .i64 x.v, .int .i64 (a' : Nat), .int .i64 (b' : Nat), .slice p5 (chnL st.cs st.sum x).length c5].toArray 112)) := b5.addP b5.size _
    simp (config := {maxSteps := 2000000, implicitDefEqProofs := false}) only [go_sem, ↓reduceIte, Nat.reduceEqDiff, Nat.reduceAdd, Nat.reduceMul, Nat.reduceLeDiff, Nat.reduceLT, Nat.reduceSub, IntWalk.iteOmega, IntWalk.toNatUp, reduceCtorEq, false_and, and_false, false_or, or_false, true_or, or_true, not_true_eq_false, not_false_eq_true, Bool.not_true, Bool.not_false, Bool.and_true, Bool.true_and, Bool.and_false, Bool.false_and, Bool.not_eq_true, beq_self_eq_true, Nat.add_zero, Int.reduceLE, Int.reduceLT, Int.reduceToNat, Int.reduceNeg, b5, B5p]
    refine append_ts (E := 112) (B := h.size + 2) (n := 8) (bytes := 80) tsl47 Tryd.underlying47 tn112 tz112 rfl tb112 entC_one (s1.push _) (by simp; omega) hone (by simp only [List.length_singleton]; omega) (by omega) ?_
    intro w6 h6 o6 _ b6
    have s2' := OEnts.app (s1.push _) (s2.mono (fun w t q => q.push _)) b6
    have b56 : Bel (h.size + 2) h5 h6 := (Bel.push (by omega) _).trans (b6.bel (by simp; omega) s1.own.blk)
    have Bh6 : Bel h.size h h6 := (Bh4.trans (b5.mono Bh4.size)).trans (b56.mono (by omega))
    have z6 := b56.size
    have x06 := b56.get (by omega) (b5.get (by omega) x04)
    have x16 := b56.get (by omega) (b5.get (by omega) x14)
    have q5 := ((o5.mono (B' := h.size + 2) (by omega)).push (.cells [.int .i64 x.k, .int .i64 x.c, .int .i64 x.s, .int .i64 x.n, .int .i64 x.v, .int .i64 (a' : Nat), .int .i64 (b' : Nat), .slice p5 (chnL st.cs st.sum x).length c5].toArray 112)).but b6 (fun b hb => own_apart (by decide) o5.own s1.own b hb)
    have q4 := (((o4.mono (B' := h.size + 2) (by omega)).bel b5 (Nat.le_refl _)).push (.cells [.int .i64 x.k, .int .i64 x.c, .int .i64 x.s, .int .i64 x.n, .int .i64 x.v, .int .i64 (a' : Nat), .int .i64 (b' : Nat), .slice p5 (chnL st.cs st.sum x).length c5].toArray 112)).but b6 (fun b hb => own_apart (by decide) (o4.bel b5 (Nat.le_refl _)).own s1.own b hb)
    simp (config := {maxSteps := 2000000, implicitDefEqProofs := false}) only [go_sem, ↓reduceIte, Nat.reduceEqDiff, Nat.reduceAdd, Nat.reduceMul, Nat.reduceLeDiff, Nat.reduceLT, Nat.reduceSub, IntWalk.iteOmega, IntWalk.toNatUp, reduceCtorEq, false_and, and_false, false_or, or_false, true_or, or_true, not_true_eq_false, not_false_eq_true, Bool.not_true, Bool.not_false, Bool.and_true, Bool.true_and, Bool.and_false, Bool.false_and, Bool.not_eq_true, beq_self_eq_true, Nat.add_zero, Int.reduceLE, Int.reduceLT, Int.reduceToNat, Int.reduceNeg, e8]
    refine ⟨⟨Bh6, e0, e3, e5, x06, i + 1, stepC st x, hlt, rfl, ?_, ok', ?_, ?_, ?_, q4⟩, ?_⟩
    · rw [hr, chnR_go e]
    · simp only [stepC, List.length_append, List.length_singleton]; omega
    · rw [show (stepC st x).cs = D from hD.symm]; exact x16
    · exact ⟨_, o6, s2'.snoc ⟨rfl, ea.symm, eb.symm, q5⟩⟩
    · simp only [vi, updo_some, ↓reduceIte, f8, e8]; omega
  · have hge : ¬ (i : Int) < l.length := by omega
    obtain rfl : i = l.length := by omega
    rw [List.drop_length, chnR_nil] at hr
    have eE : chainE l = 0 := by unfold chainE; rw [hr]
    have eS : chainS l = st.cs := by unfold chainS; rw [eE, if_pos rfl, hr]
    have eO : chainO l = st.out := by unfold chainO; rw [eE, if_pos rfl, hr]
    have hcl : st.cs.length = 40 := fitK_length ok.fit
    have hone := fitK_one ok.fit
    have r1 := rd_last x1 hcl
    have w0 := wr_get x0 0 st.cs
    rw [if_pos ⟨by omega, hone⟩, lput_full (by omega)] at w0
    have hl0 : h.size < g.size := by omega
    obtain ⟨p6, c6, hf6⟩ := oe.open
    rw [eE, eS, eO]
    simp (config := {maxSteps := 2000000, implicitDefEqProofs := false}) only [go_sem, ↓reduceIte, Nat.reduceEqDiff, Nat.reduceAdd, Nat.reduceMul, Nat.reduceLeDiff, Nat.reduceLT, Nat.reduceSub, IntWalk.iteOmega, IntWalk.toNatUp, reduceCtorEq, false_and, and_false, false_or, or_false, true_or, or_true, not_true_eq_false, not_false_eq_true, Bool.not_true, Bool.not_false, Bool.and_true, Bool.true_and, Bool.and_false, Bool.false_and, Bool.not_eq_true, beq_self_eq_true, Nat.add_zero, Int.reduceLE, Int.reduceLT, Int.reduceToNat, Int.reduceNeg, f0, f8, hge]
    refine VS.w (h.size) [] (.q 0 (.q 2 (.s 1 (.s 3 (.q 4 .nil))))) mixed (by kernel_rfl) ?_
    simp (config := {maxSteps := 2000000, implicitDefEqProofs := false}) only [go_sem, ↓reduceIte, Nat.reduceEqDiff, Nat.reduceAdd, Nat.reduceMul, Nat.reduceLeDiff, Nat.reduceLT, Nat.reduceSub, IntWalk.iteOmega, IntWalk.toNatUp, reduceCtorEq, false_and, and_false, false_or, or_false, true_or, or_true, not_true_eq_false, not_false_eq_true, Bool.not_true, Bool.not_false, Bool.and_true, Bool.true_and, Bool.and_false, Bool.false_and, Bool.not_eq_true, beq_self_eq_true, Nat.add_zero, Int.reduceLE, Int.reduceLT, Int.reduceToNat, Int.reduceNeg, f3, f5, hf6, r1, w0, hl0, g1]
    have oe' := oe
    rw [hf6] at oe'
    exact ⟨⟨_, 0, st.cs, by rw [take_len hcl], rfl, (oe'.setLow (by omega) _).mono (by omega)⟩, hg.addSet (Nat.le_refl _) _⟩
end Go.Proofs.YtnpacofabdgcdaaDoor
