/- The vault's audit: what the document computes; no condition but those in the statements. -/
import Derived.Test.YtnpacofabdgcdaaDoorAud
import Derived.Test.YtnpacofabdgcdaaDoorW17
namespace Go.Proofs.YtnpacofabdgcdaaDoor
open Go Go.V
set_option linter.unusedSimpArgs false
set_option linter.unusedVariables false
set_option maxRecDepth 100000
theorem encs_take {α : Type} {enc : α → List Value} {n : Nat} (henc : ∀ x, (enc x).length = n) : ∀ (l : List α) (m : Nat), (encs enc l).take (m * n) = encs enc (l.take m) := by
  intro l
  induction l with
  | nil => intro m; cases m <;> simp [encs]
  | cons x l ih =>
    intro m
    cases m with
    | zero => simp [encs]
    | succ m =>
      simp only [encs, List.take_succ_cons]
      rw [Nat.add_mul, Nat.one_mul, List.take_append, henc, Nat.add_sub_cancel, ih, List.take_of_length_le (by rw [henc]; omega)]
theorem Ts.fore {α : Type} {enc : α → List Value} {n : Nat} {h : Hp} {p : Option Addr} {c : Nat} {l : List α} (henc : ∀ x, (enc x).length = n) (s : Ts enc n h (.slice p l.length c) l) {m : Nat} (hm : m ≤ l.length) (c' : Nat) : Ts enc n h (.slice p m c') (l.take m) := by
  have := s.sl.foren hm c'
  rw [encs_take henc] at this
  refine ⟨?_⟩
  rw [List.length_take, Nat.min_eq_left hm]
  exact this
theorem audited_ok (T : World) (h : Hp) (u : Value) (l : List Etv) (s : TEnts h u l) :
    CallsH Tryd.prog T 45 #[u] h fun v' h' => v' = .tuple [.int .i64 (if 200 < l.length then 0 else audR chn0 l 0), .int .i64 (if 200 < l.length then 1 else 0)].toArray ∧ Bel h.size h h' := by
  obtain ⟨p, cp, rfl, hc1⟩ := s.open
  refine CallsH.of_code2 (args := [_]) Tryd.func45 rfl rfl rfl rfl ?_
  by_cases big : 200 < l.length
  · have big' : (200 : Int) < l.length := by omega
    simp (config := {maxSteps := 2000000, implicitDefEqProofs := false}) only [go_sem, ↓reduceIte, Nat.reduceEqDiff, Nat.reduceAdd, Nat.reduceMul, Nat.reduceLeDiff, Nat.reduceLT, Nat.reduceSub, IntWalk.iteOmega, IntWalk.toNatUp, reduceCtorEq, false_and, and_false, false_or, or_false, true_or, or_true, not_true_eq_false, not_false_eq_true, Bool.not_true, Bool.not_false, Bool.and_true, Bool.true_and, Bool.and_false, Bool.false_and, Bool.not_eq_true, beq_self_eq_true, Nat.add_zero, Int.reduceLE, Int.reduceLT, Int.reduceToNat, Int.reduceNeg, big', big]
  have big' : ¬ (200 : Int) < l.length := by omega
  simp (config := {maxSteps := 2000000, implicitDefEqProofs := false}) only [go_sem, ↓reduceIte, Nat.reduceEqDiff, Nat.reduceAdd, Nat.reduceMul, Nat.reduceLeDiff, Nat.reduceLT, Nat.reduceSub, IntWalk.iteOmega, IntWalk.toNatUp, reduceCtorEq, false_and, and_false, false_or, or_false, true_or, or_true, not_true_eq_false, not_false_eq_true, Bool.not_true, Bool.not_false, Bool.and_true, Bool.true_and, Bool.and_false, Bool.false_and, Bool.not_eq_true, beq_self_eq_true, Nat.add_zero, Int.reduceLE, Int.reduceLT, Int.reduceToNat, Int.reduceNeg, big', big]
  refine VS.loop' (fun F g => Bel h.size h g ∧ F 0 = .slice p l.length cp ∧ ∃ i : Nat, i ≤ l.length ∧ F 5 = .int .i64 i ∧ Ots h.size 25 cmvC 5 g (F 4) ((l.map (·.x)).take i))
    (fun F _ => l.length - (vi (F 5)).toNat) rfl ⟨Bel.refl _ _, rfl, 0, by omega, rfl, Ots.nil _ _ _ _ _⟩ ?_
  rintro F g ⟨hg, f0, i, hi, f5, ho⟩
  have gs := hg.size
  by_cases hlt : i < l.length
  · have hlt' : (i : Int) < l.length := by omega
    obtain ⟨bb, oo, rfl, hbb, hcs⟩ := hc1 (by intro e; rw [e] at hlt; simp at hlt)
    obtain ⟨q1, m1, k1, r1, t1⟩ := hcs i hlt
    have r0 := ents_rd (i := i) (o := oo) (b := bb) r1 rfl 0 5 (by omega) (by omega)
    simp only [List.drop_zero, List.take_succ_cons, List.take_zero, Nat.add_zero] at r0
    rw [← rd_bel hg (by exact hbb)] at r0
    have hone := Ts.one (E := 25) (h := g) (enc := cmvC) (n := 5) l[i].x (fun _ => rfl) 1
    unfold cmvC at hone
    have hlm : i < (l.map (·.x)).length := by rw [List.length_map]; exact hlt
    have etk : (l.map (·.x)).take (i + 1) = (l.map (·.x)).take i ++ [l[i].x] := by rw [take_snoc _ i hlm, List.getElem_map]
    simp (config := {maxSteps := 2000000, implicitDefEqProofs := false}) only [go_sem, ↓reduceIte, Nat.reduceEqDiff, Nat.reduceAdd, Nat.reduceMul, Nat.reduceLeDiff, Nat.reduceLT, Nat.reduceSub, IntWalk.iteOmega, IntWalk.toNatUp, reduceCtorEq, false_and, and_false, false_or, or_false, true_or, or_true, not_true_eq_false, not_false_eq_true, Bool.not_true, Bool.not_false, Bool.and_true, Bool.true_and, Bool.and_false, Bool.false_and, Bool.not_eq_true, beq_self_eq_true, Nat.add_zero, Int.reduceLE, Int.reduceLT, Int.reduceToNat, Int.reduceNeg, f0, f5, hlt', r0]
    refine append_ts (E := 25) (B := h.size) (n := 5) (bytes := 40) tsl46 Tryd.underlying46 tn25 tz25 rfl tb25 (fun _ => rfl) (ho.push _) (by simp; omega) hone (by simp only [List.length_take, List.length_map, List.length_singleton]; omega) (by omega) ?_
    intro v' h' ho' hb' _
    simp (config := {maxSteps := 2000000, implicitDefEqProofs := false}) only [go_sem, ↓reduceIte, Nat.reduceEqDiff, Nat.reduceAdd, Nat.reduceMul, Nat.reduceLeDiff, Nat.reduceLT, Nat.reduceSub, IntWalk.iteOmega, IntWalk.toNatUp, reduceCtorEq, false_and, and_false, false_or, or_false, true_or, or_true, not_true_eq_false, not_false_eq_true, Bool.not_true, Bool.not_false, Bool.and_true, Bool.true_and, Bool.and_false, Bool.false_and, Bool.not_eq_true, beq_self_eq_true, Nat.add_zero, Int.reduceLE, Int.reduceLT, Int.reduceToNat, Int.reduceNeg, f0, f5]
    refine ⟨⟨(hg.addP gs _).trans hb', f0, i + 1, hlt, rfl, ?_⟩, ?_⟩
    · rw [etk]; exact ho'
    · simp only [vi, updo_some, ↓reduceIte, f5]; omega
  have hge : ¬ (i : Int) < l.length := by omega
  obtain rfl : i = l.length := by omega
  rw [show (l.map (·.x)).take l.length = l.map (·.x) by rw [← List.length_map (f := fun e : Etv => e.x), List.take_length]] at ho
  obtain ⟨p4, c4, f4, _⟩ := ho.open
  rw [f4, List.length_map] at ho
  rw [List.length_map] at f4
  simp (config := {maxSteps := 2000000, implicitDefEqProofs := false}) only [go_sem, ↓reduceIte, Nat.reduceEqDiff, Nat.reduceAdd, Nat.reduceMul, Nat.reduceLeDiff, Nat.reduceLT, Nat.reduceSub, IntWalk.iteOmega, IntWalk.toNatUp, reduceCtorEq, false_and, and_false, false_or, or_false, true_or, or_true, not_true_eq_false, not_false_eq_true, Bool.not_true, Bool.not_false, Bool.and_true, Bool.true_and, Bool.and_false, Bool.false_and, Bool.not_eq_true, beq_self_eq_true, Nat.add_zero, Int.reduceLE, Int.reduceLT, Int.reduceToNat, Int.reduceNeg, f0, f5, hge]
  obtain ⟨CM, hCM⟩ : ∃ CM, CM = l.map (fun e : Etv => e.x) := ⟨_, rfl⟩
  have hCl : CM.length = l.length := by rw [hCM, List.length_map]
  rw [← hCM] at ho
  have ho0 := ho
  refine VS.loop' (fun F g' => Bel g.size g g' ∧ F 0 = .slice p l.length cp ∧ F 4 = .slice p4 l.length c4 ∧ ∃ (i : Nat) (st : Chn), i ≤ l.length ∧ F 6 = .int .i64 i ∧ audR chn0 l 0 = audR st (l.drop i) i ∧ ChnOk st ∧ chnR chn0 (CM.take i) = (0, st) ∧ st.out.length = i)
    (fun F _ => l.length - (vi (F 6)).toNat) rfl ⟨Bel.refl _ _, f0, f4, 0, chn0, by omega, rfl, rfl, chn0_ok, rfl, rfl⟩ ?_
  clear f0 f4 f5 F
  rintro F g0 ⟨hg0, f0, f4, i, st, hi, f6, hr, ok, hch, hol⟩
  have gs0 := hg0.size
  have Bh := hg.trans (hg0.mono gs)
  by_cases hlt : i < l.length
  · have hlt' : (i : Int) < l.length := by omega
    obtain ⟨bb, oo, rfl, hbb, hcs⟩ := hc1 (by intro e; rw [e] at hlt; simp at hlt)
    obtain ⟨q1, m1, k1, r1, t1⟩ := hcs i hlt
    have hdr : l.drop i = l[i] :: l.drop (i + 1) := List.drop_eq_getElem_cons hlt
    have etk : CM.take (i + 1) = CM.take i ++ [l[i].x] := by
      rw [take_snoc _ i (by omega)]
      simp [hCM]
    generalize l[i] = y at *
    obtain ⟨x, ya, yb, ys⟩ := y
    simp only at r1 t1 etk
    rw [hdr] at hr
    have n1 : (i : Int) + 1 ≤ l.length := by omega
    have n2 : ((i : Int) + 1).toNat = i + 1 := by omega
    have n3 : (l.length : Int) ≤ c4 := by
      rcases ho0.open with ⟨p', c', hv, hc'⟩
      simp only [Value.slice.injEq] at hv
      omega
    have tsf : Ts cmvC 5 g0 (.slice p4 (i + 1) c4) (CM.take (i + 1)) := by
      have := ho.ts.bel hg0
      rw [← hCl] at this
      exact Ts.fore (enc := cmvC) (n := 5) (fun _ => rfl) this (by omega) c4
    have hl1 : (CM.take (i + 1)).length = i + 1 := by rw [List.length_take]; omega
    have hq : chnR chn0 (CM.take (i + 1)) = chnR st [x] := by
      rw [etk, chnR_snoc x _ _ (by rw [hch]), hch]
    simp (config := {maxSteps := 2000000, implicitDefEqProofs := false}) only [go_sem, ↓reduceIte, Nat.reduceEqDiff, Nat.reduceAdd, Nat.reduceMul, Nat.reduceLeDiff, Nat.reduceLT, Nat.reduceSub, IntWalk.iteOmega, IntWalk.toNatUp, reduceCtorEq, false_and, and_false, false_or, or_false, true_or, or_true, not_true_eq_false, not_false_eq_true, Bool.not_true, Bool.not_false, Bool.and_true, Bool.true_and, Bool.and_false, Bool.false_and, Bool.not_eq_true, beq_self_eq_true, Nat.add_zero, Int.reduceLE, Int.reduceLT, Int.reduceToNat, Int.reduceNeg, f0, f4, f6, hlt', n1, n2, n3]
    refine (chainOf_ok T g0 _ (CM.take (i + 1)) tsf).use ?_
    rintro _ h2 ⟨⟨w, E, D, rfl, hED, oe⟩, b2⟩
    rw [if_neg (by omega)] at hED oe
    have eE : chainE (CM.take (i + 1)) = chnE st.cs x := by
      unfold chainE
      rw [hq]
      by_cases q : chnE st.cs x = 0
      · rw [chnR_go q, chnR_nil, q]
      · rw [chnR_stop q]
    have eO : chnE st.cs x = 0 → chainO (CM.take (i + 1)) = (stepC st x).out := fun e => by unfold chainO; rw [eE, if_pos e, hq, chnR_go e, chnR_nil]
    have fD : fitK storeK D = true := by rw [(Prod.mk.inj hED).2]; exact chainS_fit _
    obtain rfl : E = chnE st.cs x := (Prod.mk.inj hED).1.trans eE
    have D40 : D.length = 40 := fitK_length fD
    have hDone := fitK_one fD
    have tkD := take_len D40
    simp (config := {maxSteps := 2000000, implicitDefEqProofs := false}) only [go_sem, ↓reduceIte, Nat.reduceEqDiff, Nat.reduceAdd, Nat.reduceMul, Nat.reduceLeDiff, Nat.reduceLT, Nat.reduceSub, IntWalk.iteOmega, IntWalk.toNatUp, reduceCtorEq, false_and, and_false, false_or, or_false, true_or, or_true, not_true_eq_false, not_false_eq_true, Bool.not_true, Bool.not_false, Bool.and_true, Bool.true_and, Bool.and_false, Bool.false_and, Bool.not_eq_true, beq_self_eq_true, Nat.add_zero, Int.reduceLE, Int.reduceLT, Int.reduceToNat, Int.reduceNeg, D40, hDone, lput_full, tkD]
    obtain ⟨h3, hh3⟩ : ∃ h3 : Hp, h3 = h2.push (.cells D.toArray 54) := ⟨_, rfl⟩
    have b3 : Bel h2.size h2 h3 := by rw [hh3]; exact Bel.push (Nat.le_refl _) _
    have z3 : h3.size = h2.size + 1 := by rw [hh3]; simp
    rw [← hh3]
    clear hh3
    have z2 := b2.size
    have B03 : Bel g0.size g0 h3 := b2.trans (b3.mono z2)
    have Bh3 : Bel h.size h h3 := Bh.trans (B03.mono (by omega))
    have k0 : bb < h3.size := by omega
    have c0 := ents_rd (i := i) (o := oo) (b := bb) r1 rfl 5 2 (by omega) (by omega)
    have c7 := r1.hc (i := 7) rfl
    simp only [List.drop_zero, List.take_succ_cons, List.take_zero, List.drop_succ_cons] at c0
    rw [← rd_bel Bh3 (by exact hbb)] at c0
    rw [← Bh3.hc (by exact hbb)] at c7
    have t3 := t1.bel Bh3
    refine VS.mono (N := fun F' g' => Bel h3.size h3 g' ∧ F' 0 = .slice (some ⟨bb, oo, none⟩) l.length cp ∧ F' 4 = .slice p4 l.length c4 ∧ F' 6 = .int .i64 i ∧ F' 71 = .bool (decide (entBad st ⟨x, ya, yb, ys⟩))) ?_ ?_ (fun _ _ _ h => h) (fun _ _ h => h)
    · by_cases e : chnE st.cs x = 0
      case neg =>
        have bad : entBad st ⟨x, ya, yb, ys⟩ := .inl e
        refine VS.w (h3.size) [] (.q 0 (.q 1 (.q 2 (.q 3 (.q 4 (.q 5 (.q 6 (.q 7 (.q 8 (.q 9 (.q 10 (.q 11 (.q 12 (.q 13 (.q 14 (.q 15 (.q 16 (.q 17 (.q 18 (.q 19 (.q 20 (.q 22 (.q 23 (.q 24 (.q 25 (.q 26 (.or 21 (.s 27 (.q 28 (.q 29 .nil))) (.s 27 (.s 21 (.q 28 (.q 29 .nil))))))))))))))))))))))))))))))) mixed (by kernel_rfl) ?_
        simp (config := {maxSteps := 2000000, implicitDefEqProofs := false}) only [go_sem, ↓reduceIte, Nat.reduceEqDiff, Nat.reduceAdd, Nat.reduceMul, Nat.reduceLeDiff, Nat.reduceLT, Nat.reduceSub, IntWalk.iteOmega, IntWalk.toNatUp, reduceCtorEq, false_and, and_false, false_or, or_false, true_or, or_true, not_true_eq_false, not_false_eq_true, Bool.not_true, Bool.not_false, Bool.and_true, Bool.true_and, Bool.and_false, Bool.false_and, Bool.not_eq_true, beq_self_eq_true, Nat.add_zero, Int.reduceLE, Int.reduceLT, Int.reduceToNat, Int.reduceNeg, e, k0, c0, c7, bad, f0, f4, f6, hlt']
      obtain ⟨ok', a', b', ea, eb, la, lb⟩ := step_ok ok e
      rw [eO e] at oe
      have t4 := (oe.bel b3 (Nat.le_refl _)).ts
      obtain ⟨pw, cw, rfl, hw⟩ := t4.open
      have hsl : (stepC st x).out.length = i + 1 := by simp only [stepC, List.length_append, List.length_singleton]; omega
      obtain ⟨b5, o5, rfl, hb5, hcs5⟩ := hw (by intro en; rw [en] at hsl; simp at hsl)
      obtain ⟨q6, m6, k6, r6, t6⟩ := hcs5 i (by omega)
      have hlast : (stepC st x).out[i]'(by omega) = ⟨x, (a' : Int), (b' : Int), chnL st.cs st.sum x⟩ := by
        simp only [stepC, ea, eb]
        subst hol
        simp
      rw [hlast] at r6 t6
      have d0 := ents_rd (i := i) (o := o5) (b := b5) r6 rfl 5 2 (by omega) (by omega)
      have d7 := r6.hc (i := 7) rfl
      simp only [List.drop_zero, List.take_succ_cons, List.take_zero, List.drop_succ_cons] at d0
      simp only at t6
      have n5 : (i : Int) < ((i + 1 : Nat) : Int) := by omega
      rw [hsl]
      clear hcs5 hw
      by_cases ea2 : (a' : Int) = ya
      case neg =>
        have bad : entBad st ⟨x, ya, yb, ys⟩ := .inr (.inl (fun hn => ea2 (ea.symm.trans hn.1)))
        refine VS.w (h3.size) [] (.q 0 (.q 1 (.q 2 (.q 3 (.q 4 (.q 5 (.q 6 (.q 7 (.q 8 (.q 9 (.q 10 (.q 11 (.q 12 (.q 13 (.q 14 (.q 15 (.q 16 (.q 17 (.q 18 (.q 19 (.q 20 (.q 22 (.q 23 (.q 24 (.q 25 (.q 26 (.or 21 (.s 27 (.q 28 (.q 29 .nil))) (.s 27 (.s 21 (.q 28 (.q 29 .nil))))))))))))))))))))))))))))))) mixed (by kernel_rfl) ?_
        simp (config := {maxSteps := 2000000, implicitDefEqProofs := false}) only [go_sem, ↓reduceIte, Nat.reduceEqDiff, Nat.reduceAdd, Nat.reduceMul, Nat.reduceLeDiff, Nat.reduceLT, Nat.reduceSub, IntWalk.iteOmega, IntWalk.toNatUp, reduceCtorEq, false_and, and_false, false_or, or_false, true_or, or_true, not_true_eq_false, not_false_eq_true, Bool.not_true, Bool.not_false, Bool.and_true, Bool.true_and, Bool.and_false, Bool.false_and, Bool.not_eq_true, beq_self_eq_true, Nat.add_zero, Int.reduceLE, Int.reduceLT, Int.reduceToNat, Int.reduceNeg, e, k0, hb5, c0, c7, d0, d7, n5, bad, ea2, f0, f4, f6, hlt']
      by_cases eb2 : (b' : Int) = yb
      case neg =>
        have bad : entBad st ⟨x, ya, yb, ys⟩ := .inr (.inl (fun hn => eb2 (eb.symm.trans hn.2)))
        refine VS.w (h3.size) [] (.q 0 (.q 1 (.q 2 (.q 3 (.q 4 (.q 5 (.q 6 (.q 7 (.q 8 (.q 9 (.q 10 (.q 11 (.q 12 (.q 13 (.q 14 (.q 15 (.q 16 (.q 17 (.q 18 (.q 19 (.q 20 (.q 22 (.q 23 (.q 24 (.q 25 (.q 26 (.or 21 (.s 27 (.q 28 (.q 29 .nil))) (.s 27 (.s 21 (.q 28 (.q 29 .nil))))))))))))))))))))))))))))))) mixed (by kernel_rfl) ?_
        simp (config := {maxSteps := 2000000, implicitDefEqProofs := false}) only [go_sem, ↓reduceIte, Nat.reduceEqDiff, Nat.reduceAdd, Nat.reduceMul, Nat.reduceLeDiff, Nat.reduceLT, Nat.reduceSub, IntWalk.iteOmega, IntWalk.toNatUp, reduceCtorEq, false_and, and_false, false_or, or_false, true_or, or_true, not_true_eq_false, not_false_eq_true, Bool.not_true, Bool.not_false, Bool.and_true, Bool.true_and, Bool.and_false, Bool.false_and, Bool.not_eq_true, beq_self_eq_true, Nat.add_zero, Int.reduceLE, Int.reduceLT, Int.reduceToNat, Int.reduceNeg, e, k0, hb5, c0, c7, d0, d7, n5, bad, ea2, eb2, f0, f4, f6, hlt']
      subst ea2 eb2
      refine VS.w (h3.size) [] (.q 0 (.q 1 (.q 2 (.q 3 (.q 4 (.q 5 (.q 6 (.q 7 (.q 8 (.q 9 (.q 10 (.q 11 (.q 12 (.q 13 (.q 14 (.q 15 (.q 16 (.q 17 (.q 18 (.q 19 (.q 20 (.q 22 (.q 23 (.q 24 (.q 25 (.q 26 (.or 21 (.s 27 (.q 28 (.q 29 .nil))) (.s 27 (.s 21 (.q 28 (.q 29 .nil))))))))))))))))))))))))))))))) mixed (by kernel_rfl) ?_
      simp (config := {maxSteps := 2000000, implicitDefEqProofs := false}) only [go_sem, ↓reduceIte, Nat.reduceEqDiff, Nat.reduceAdd, Nat.reduceMul, Nat.reduceLeDiff, Nat.reduceLT, Nat.reduceSub, IntWalk.iteOmega, IntWalk.toNatUp, reduceCtorEq, false_and, and_false, false_or, or_false, true_or, or_true, not_true_eq_false, not_false_eq_true, Bool.not_true, Bool.not_false, Bool.and_true, Bool.true_and, Bool.and_false, Bool.false_and, Bool.not_eq_true, beq_self_eq_true, Nat.add_zero, Int.reduceLE, Int.reduceLT, Int.reduceToNat, Int.reduceNeg, e, k0, hb5, c0, c7, d0, d7, n5, f0, f4, f6, hlt']
      have bde : (!decide (chnL st.cs st.sum x = ys)) = decide (entBad st ⟨x, (a' : Int), (b' : Int), ys⟩) := by
        by_cases es : chnL st.cs st.sum x = ys
        · have bad : ¬ entBad st ⟨x, (a' : Int), (b' : Int), ys⟩ := by
            rintro (hn | hn | hn)
            · exact hn e
            · exact hn ⟨ea, eb⟩
            · exact hn es
          rw [decide_eq_false bad, decide_eq_true es]; rfl
        · have bad : entBad st ⟨x, (a' : Int), (b' : Int), ys⟩ := .inr (.inr es)
          rw [decide_eq_true bad, decide_eq_false es]; rfl
      refine ⟨?_, ?_⟩
      · refine conv_str Tryd.underlying29 Tryd.underlying9 Tryd.underlying5 t6 ?_
        simp (config := {maxSteps := 2000000, implicitDefEqProofs := false}) only [go_sem, ↓reduceIte, Nat.reduceEqDiff, Nat.reduceAdd, Nat.reduceMul, Nat.reduceLeDiff, Nat.reduceLT, Nat.reduceSub, IntWalk.iteOmega, IntWalk.toNatUp, reduceCtorEq, false_and, and_false, false_or, or_false, true_or, or_true, not_true_eq_false, not_false_eq_true, Bool.not_true, Bool.not_false, Bool.and_true, Bool.true_and, Bool.and_false, Bool.false_and, Bool.not_eq_true, beq_self_eq_true, Nat.add_zero, Int.reduceLE, Int.reduceLT, Int.reduceToNat, Int.reduceNeg]
        refine conv_str Tryd.underlying29 Tryd.underlying9 Tryd.underlying5 t3 ?_
        simp (config := {maxSteps := 2000000, implicitDefEqProofs := false}) only [go_sem, ↓reduceIte, Nat.reduceEqDiff, Nat.reduceAdd, Nat.reduceMul, Nat.reduceLeDiff, Nat.reduceLT, Nat.reduceSub, IntWalk.iteOmega, IntWalk.toNatUp, reduceCtorEq, false_and, and_false, false_or, or_false, true_or, or_true, not_true_eq_false, not_false_eq_true, Bool.not_true, Bool.not_false, Bool.and_true, Bool.true_and, Bool.and_false, Bool.false_and, Bool.not_eq_true, beq_self_eq_true, Nat.add_zero, Int.reduceLE, Int.reduceLT, Int.reduceToNat, Int.reduceNeg, f0, f4, f6]
        rw [bytes_eq _ _ t6.byte t3.byte, bde]
      · refine conv_str Tryd.underlying29 Tryd.underlying9 Tryd.underlying5 t3 ?_
        simp (config := {maxSteps := 2000000, implicitDefEqProofs := false}) only [go_sem, ↓reduceIte, Nat.reduceEqDiff, Nat.reduceAdd, Nat.reduceMul, Nat.reduceLeDiff, Nat.reduceLT, Nat.reduceSub, IntWalk.iteOmega, IntWalk.toNatUp, reduceCtorEq, false_and, and_false, false_or, or_false, true_or, or_true, not_true_eq_false, not_false_eq_true, Bool.not_true, Bool.not_false, Bool.and_true, Bool.true_and, Bool.and_false, Bool.false_and, Bool.not_eq_true, beq_self_eq_true, Nat.add_zero, Int.reduceLE, Int.reduceLT, Int.reduceToNat, Int.reduceNeg]
        refine conv_str Tryd.underlying29 Tryd.underlying9 Tryd.underlying5 t6 ?_
        simp (config := {maxSteps := 2000000, implicitDefEqProofs := false}) only [go_sem, ↓reduceIte, Nat.reduceEqDiff, Nat.reduceAdd, Nat.reduceMul, Nat.reduceLeDiff, Nat.reduceLT, Nat.reduceSub, IntWalk.iteOmega, IntWalk.toNatUp, reduceCtorEq, false_and, and_false, false_or, or_false, true_or, or_true, not_true_eq_false, not_false_eq_true, Bool.not_true, Bool.not_false, Bool.and_true, Bool.true_and, Bool.and_false, Bool.false_and, Bool.not_eq_true, beq_self_eq_true, Nat.add_zero, Int.reduceLE, Int.reduceLT, Int.reduceToNat, Int.reduceNeg, f0, f4, f6]
        rw [bytes_eq _ _ t6.byte t3.byte, bde]
    rintro F' g' ⟨B4, e0, e4, e6, e71⟩
    have Bg' : Bel g.size g g' := hg0.trans ((B03.trans (B4.mono (by omega))).mono (by omega))
    by_cases bad : entBad st ⟨x, ya, yb, ys⟩
    · rw [hr, audR_stop bad]
      simp (config := {maxSteps := 2000000, implicitDefEqProofs := false}) only [go_sem, ↓reduceIte, Nat.reduceEqDiff, Nat.reduceAdd, Nat.reduceMul, Nat.reduceLeDiff, Nat.reduceLT, Nat.reduceSub, IntWalk.iteOmega, IntWalk.toNatUp, reduceCtorEq, false_and, and_false, false_or, or_false, true_or, or_true, not_true_eq_false, not_false_eq_true, Bool.not_true, Bool.not_false, Bool.and_true, Bool.true_and, Bool.and_false, Bool.false_and, Bool.not_eq_true, beq_self_eq_true, Nat.add_zero, Int.reduceLE, Int.reduceLT, Int.reduceToNat, Int.reduceNeg, e71, bad, e6]
      exact hg.trans (Bg'.mono gs)
    rw [audR_go bad] at hr
    have e : chnE st.cs x = 0 := Classical.byContradiction fun hn => bad (.inl hn)
    have es : chnL st.cs st.sum x = ys := Classical.byContradiction fun hn => bad (.inr (.inr hn))
    obtain ⟨ok', a', b', ea, eb, la, lb⟩ := step_ok ok e
    simp (config := {maxSteps := 2000000, implicitDefEqProofs := false}) only [go_sem, ↓reduceIte, Nat.reduceEqDiff, Nat.reduceAdd, Nat.reduceMul, Nat.reduceLeDiff, Nat.reduceLT, Nat.reduceSub, IntWalk.iteOmega, IntWalk.toNatUp, reduceCtorEq, false_and, and_false, false_or, or_false, true_or, or_true, not_true_eq_false, not_false_eq_true, Bool.not_true, Bool.not_false, Bool.and_true, Bool.true_and, Bool.and_false, Bool.false_and, Bool.not_eq_true, beq_self_eq_true, Nat.add_zero, Int.reduceLE, Int.reduceLT, Int.reduceToNat, Int.reduceNeg, e71, bad, e6]
    refine ⟨⟨Bg', e0, e4, i + 1, stepC st x, hlt, rfl, hr, ok', by rw [hq, chnR_go e, chnR_nil], ?_⟩, ?_⟩
    · simp only [stepC, List.length_append, List.length_singleton]; omega
    · simp only [vi, updo_some, ↓reduceIte, f6]; omega
  · have hge : ¬ (i : Int) < l.length := by omega
    obtain rfl : i = l.length := by omega
    rw [List.drop_length] at hr
    rw [hr]
    simp (config := {maxSteps := 2000000, implicitDefEqProofs := false}) only [go_sem, ↓reduceIte, Nat.reduceEqDiff, Nat.reduceAdd, Nat.reduceMul, Nat.reduceLeDiff, Nat.reduceLT, Nat.reduceSub, IntWalk.iteOmega, IntWalk.toNatUp, reduceCtorEq, false_and, and_false, false_or, or_false, true_or, or_true, not_true_eq_false, not_false_eq_true, Bool.not_true, Bool.not_false, Bool.and_true, Bool.true_and, Bool.and_false, Bool.false_and, Bool.not_eq_true, beq_self_eq_true, Nat.add_zero, Int.reduceLE, Int.reduceLT, Int.reduceToNat, Int.reduceNeg, f0, f6, hge]
    exact ⟨rfl, Bh⟩
end Go.Proofs.YtnpacofabdgcdaaDoor
