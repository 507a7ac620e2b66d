/- StableRecovers: the law's walk; the table of numbers as the program lays it. -/
import Derived.Test.YtnpacofabdgcdaaDoorRcw
import Derived.Test.YtnpacofabdgcdaaDoorCards
import Derived.Test.YtnpacofabdgcdaaDoorTie
namespace Go.Proofs.YtnpacofabdgcdaaDoor
open Go Go.V
set_option linter.unusedSimpArgs false
set_option linter.unusedVariables false
set_option maxRecDepth 100000
theorem rec_eq {l : List Nat} {n : Int} {r r' : Acp} {k k' : Nat} {E E' : Int} (h : if tapeOk l n then E = 0 ∧ Rec l acp0 0 r k else E = 5 ∧ r = acp0 ∧ k = 0) (h' : if tapeOk l n then E' = 0 ∧ Rec l acp0 0 r' k' else E' = 5 ∧ r' = acp0 ∧ k' = 0) : r' = r ∧ k' = k ∧ E' = E := by
  by_cases q : tapeOk l n
  · rw [if_pos q] at h h'
    obtain ⟨e1, e2⟩ := h'.2.det h.2
    exact ⟨e1, e2, h'.1.trans h.1.symm⟩
  · rw [if_neg q] at h h'
    exact ⟨h'.2.1.trans h.2.1.symm, h'.2.2.trans h.2.2.symm, h'.1.trans h.1.symm⟩
theorem stableRecovers_ok : LawOkL Tryd.prog Tk 16 Tryd.f16.params.toList := by
  intro T args tk hfit
  rw [show Tryd.f16.params.toList = [65] from rfl] at hfit
  obtain ⟨v, _, rfl, ⟨k1, h1⟩, hfit⟩ := fitAll_cons hfit
  obtain rfl := fitAll_nil hfit
  obtain ⟨w, n, l, rfl, s, hl, hcap⟩ := tapeArg h1
  clear h1
  generalize T.heap = h at *
  obtain ⟨p, c, rfl, hc1⟩ := s.open
  refine CallsH.of_code' (args := [_]) Tryd.func16 rfl rfl rfl rfl ?_
  simp (config := {maxSteps := 2000000, implicitDefEqProofs := false}) only [go_sem, ↓reduceIte, Nat.reduceEqDiff, Nat.reduceAdd, Nat.reduceMul, Nat.reduceLeDiff, Nat.reduceLT, Nat.reduceSub, IntWalk.iteOmega, IntWalk.toNatUp, reduceCtorEq, false_and, and_false, false_or, or_false, true_or, or_true, not_true_eq_false, not_false_eq_true, Bool.not_true, Bool.not_false, Bool.and_true, Bool.true_and, Bool.and_false, Bool.false_and, Bool.not_eq_true, beq_self_eq_true, Nat.add_zero, Int.reduceLE, Int.reduceLT, Int.reduceToNat, Int.reduceNeg]
  obtain ⟨h0, hh0⟩ : ∃ h0 : Hp, h0 = h.push (.cells [.slice p l.length c, .int .i64 n].toArray 65) := ⟨_, rfl⟩
  have b0 : Bel h.size h h0 := by rw [hh0]; exact (Bel.refl _ _).add _
  have s0 : h0.size = h.size + 1 := by rw [hh0]; simp
  have t0 : h0[h.size]? = some (.cells [.slice p l.length c, .int .i64 n].toArray 65) := by rw [hh0, get_push_last]
  have e0 : h.push (.cells #[Value.slice p l.length c, .int .i64 n] 65) = h0 := hh0.symm
  have e0' : h.push (.cells [Value.slice p l.length c, .int .i64 n].toArray 65) = h0 := hh0.symm
  first | rw [e0] | rw [e0']
  clear e0 e0' hh0
  refine (tapes_ok T h0 _ n l (s.bel b0) hl).use ?_
  rintro _ h1 ⟨w1, rfl, o1, b1⟩
  have B1 := b0.trans (b1.mono b0.size)
  have z1 := b1.size
  obtain ⟨p1, c1, rfl, _⟩ := o1.bs.open
  have t01 := b1.get (by omega) t0
  simp (config := {maxSteps := 2000000, implicitDefEqProofs := false}) only [go_sem, ↓reduceIte, Nat.reduceEqDiff, Nat.reduceAdd, Nat.reduceMul, Nat.reduceLeDiff, Nat.reduceLT, Nat.reduceSub, IntWalk.iteOmega, IntWalk.toNatUp, reduceCtorEq, false_and, and_false, false_or, or_false, true_or, or_true, not_true_eq_false, not_false_eq_true, Bool.not_true, Bool.not_false, Bool.and_true, Bool.true_and, Bool.and_false, Bool.false_and, Bool.not_eq_true, beq_self_eq_true, Nat.add_zero, Int.reduceLE, Int.reduceLT, Int.reduceToNat, Int.reduceNeg]
  obtain ⟨h2, hh2⟩ : ∃ h2 : Hp, h2 = h1.push (.cells [.slice p1 l.length c1, .int .i64 n].toArray 65) := ⟨_, rfl⟩
  have b2 : Bel h1.size h1 h2 := by rw [hh2]; exact Bel.push (Nat.le_refl _) _
  have z2 : h2.size = h1.size + 1 := by rw [hh2]; simp
  have x2 : h2[h1.size]? = some (.cells [.slice p1 l.length c1, .int .i64 n].toArray 65) := by rw [hh2]; exact get_push_last
  have eh2 : h1.push (.cells #[Value.slice p1 l.length c1, .int .i64 n] 65) = h2 := hh2.symm
  rw [eh2]
  clear eh2 hh2
  have B2 := B1.trans (b2.mono B1.size)
  refine (recover_ok T h2 _ n l ((o1.bel b2 (Nat.le_refl _)).bs) hl (tk.bels B2)).use ?_
  rintro _ h3 ⟨⟨r, k, E, w3, rfl, o3, hk3, hr3, q3⟩, b3⟩
  obtain ⟨p3, c3, rfl, _⟩ := o3.open
  have B3 := B2.trans (b3.mono B2.size)
  have z3 := b3.size
  have t03 := b3.get (by omega) (b2.get (by omega) t01)
  have x3 := b3.get (by omega) x2
  have r03 := rd_last t03 (n := 2) rfl
  have e03 : ¬ h.size = h3.size := by omega
  unfold accC
  simp (config := {maxSteps := 2000000, implicitDefEqProofs := false}) only [go_sem, ↓reduceIte, Nat.reduceEqDiff, Nat.reduceAdd, Nat.reduceMul, Nat.reduceLeDiff, Nat.reduceLT, Nat.reduceSub, IntWalk.iteOmega, IntWalk.toNatUp, reduceCtorEq, false_and, and_false, false_or, or_false, true_or, or_true, not_true_eq_false, not_false_eq_true, Bool.not_true, Bool.not_false, Bool.and_true, Bool.true_and, Bool.and_false, Bool.false_and, Bool.not_eq_true, beq_self_eq_true, Nat.add_zero, Int.reduceLE, Int.reduceLT, Int.reduceToNat, Int.reduceNeg, r03, e03]
  obtain ⟨h4, hh4⟩ : ∃ h4 : Hp, h4 = h3.push (.cells [.int .i64 r.p.r, .int .i64 r.p.n, .slice p3 r.l.length c3].toArray 85) := ⟨_, rfl⟩
  have b4 : Bel h3.size h3 h4 := by rw [hh4]; exact Bel.push (Nat.le_refl _) _
  have z4 : h4.size = h3.size + 1 := by rw [hh4]; simp
  have x4 : h4[h3.size]? = some (.cells [.int .i64 r.p.r, .int .i64 r.p.n, .slice p3 r.l.length c3].toArray 85) := by rw [hh4]; exact get_push_last
  have eh4 : h3.push (.cells #[Value.int .i64 r.p.r, .int .i64 r.p.n, .slice p3 r.l.length c3] 85) = h4 := hh4.symm
  rw [eh4]
  clear eh4 hh4
  have B4 := B3.trans (b4.mono B3.size)
  refine (recovered_ok T h4 _ n l (s.bel B4) hcap hl).use ?_
  rintro _ h5 ⟨⟨r', k', E', w5, rfl, o5, hk5, hr5, q5⟩, b5⟩
  obtain ⟨rfl, rfl, rfl⟩ := rec_eq q3 q5
  obtain ⟨p5, c5, rfl, _⟩ := o5.open
  have B5 := B4.trans (b5.mono B4.size)
  have z5 := b5.size
  have t05 := b5.get (by omega) (b4.get (by omega) t03)
  have x35 := b5.get (by omega) (b4.get (by omega) x3)
  have x45 := b5.get (by omega) x4
  have r45 := rd_last x45 (n := 3) rfl
  have e45 : ¬ h3.size = h5.size := by omega
  have hlr : r'.l.length ≤ 2199023255552 := by
    by_cases q : tapeOk l n
    · have := q.1; omega
    · rw [if_neg q] at q5
      rw [q5.2.1]; exact Nat.zero_le _
  unfold accC
  simp (config := {maxSteps := 2000000, implicitDefEqProofs := false}) only [go_sem, ↓reduceIte, Nat.reduceEqDiff, Nat.reduceAdd, Nat.reduceMul, Nat.reduceLeDiff, Nat.reduceLT, Nat.reduceSub, IntWalk.iteOmega, IntWalk.toNatUp, reduceCtorEq, false_and, and_false, false_or, or_false, true_or, or_true, not_true_eq_false, not_false_eq_true, Bool.not_true, Bool.not_false, Bool.and_true, Bool.true_and, Bool.and_false, Bool.false_and, Bool.not_eq_true, beq_self_eq_true, Nat.add_zero, Int.reduceLE, Int.reduceLT, Int.reduceToNat, Int.reduceNeg, r45, e45]
  have b35 : Bel h3.size h3 h5 := b4.trans (b5.mono (by omega))
  have pB := Bel.push (Nat.le_refl h5.size) (Obj.cells [.int .i64 r'.p.r, .int .i64 r'.p.n, .slice p5 r'.l.length c5].toArray 85)
  refine (sameAcceptor_eq T _ r'.p _ _ r'.l ((o3.ts.bel b35).bel pB) (o5.ts.bel pB) hlr).use ?_
  rintro _ h6 ⟨rfl, b6⟩
  have B6 : Bel h5.size h5 h6 := pB.trans (b6.mono (by simp))
  have z6 := B6.size
  have t06 := B6.get (by omega) t05
  have x36 := B6.get (by omega) x35
  have r06 := rd_last t06 (n := 2) rfl
  have r36 := rd_last x36 (n := 2) rfl
  simp (config := {maxSteps := 2000000, implicitDefEqProofs := false}) only [go_sem, ↓reduceIte, Nat.reduceEqDiff, Nat.reduceAdd, Nat.reduceMul, Nat.reduceLeDiff, Nat.reduceLT, Nat.reduceSub, IntWalk.iteOmega, IntWalk.toNatUp, reduceCtorEq, false_and, and_false, false_or, or_false, true_or, or_true, not_true_eq_false, not_false_eq_true, Bool.not_true, Bool.not_false, Bool.and_true, Bool.true_and, Bool.and_false, Bool.false_and, Bool.not_eq_true, beq_self_eq_true, Nat.add_zero, Int.reduceLE, Int.reduceLT, Int.reduceToNat, Int.reduceNeg, r06, r36]
  have B16 : Bel h1.size h1 h6 := b2.trans ((b3.mono (by omega)).trans ((b4.mono (by omega)).trans ((b5.mono (by omega)).trans (B6.mono (by omega)))))
  have BB6 := B5.trans (B6.mono B5.size)
  refine (sameTape_ok T _ _ _ n n l l ((o1.bel B16 (Nat.le_refl _)).bs) (s.bel BB6)).use ?_
  rintro _ h7 ⟨rfl, b7⟩
  simp (config := {maxSteps := 2000000, implicitDefEqProofs := false}) only [go_sem, ↓reduceIte, Nat.reduceEqDiff, Nat.reduceAdd, Nat.reduceMul, Nat.reduceLeDiff, Nat.reduceLT, Nat.reduceSub, IntWalk.iteOmega, IntWalk.toNatUp, reduceCtorEq, false_and, and_false, false_or, or_false, true_or, or_true, not_true_eq_false, not_false_eq_true, Bool.not_true, Bool.not_false, Bool.and_true, Bool.true_and, Bool.and_false, Bool.false_and, Bool.not_eq_true, beq_self_eq_true, Nat.add_zero, Int.reduceLE, Int.reduceLT, Int.reduceToNat, Int.reduceNeg]
  exact BB6.trans (b7.mono BB6.size)
end Go.Proofs.YtnpacofabdgcdaaDoor
namespace Go.Proofs.YtnpacofabdgcdaaDoor
open Go Go.V
set_option linter.unusedSimpArgs false
set_option linter.unusedVariables false
set_option maxRecDepth 100000
def RepRes (B : Nat) (h' : Hp) (v' : Value) (l : List Nat) (n : Int) : Prop := ∃ (r : Acp) (k : Nat) (E : Int) (w : Value), v' = .tuple [.agg [w, .int .i64 (if E = 0 then (if (k : Int) < n then (k : Int) else n) else 0)].toArray, .int .i64 E].toArray ∧ OBs B 5 h' w (if E = 0 then l.take k else []) ∧ k ≤ l.length ∧
  if tapeOk l n then E = 0 ∧ Rec l acp0 0 r k else E = 5 ∧ r = acp0 ∧ k = 0
theorem repair_ok (T : World) (h : Hp) (v : Value) (n : Int) (l : List Nat) (s : Bs h v l) (hcap : Cap v) (hl : l.length ≤ 140737488355328) (tk : Tk h) :
    CallsH Tryd.prog T 59 #[.agg [v, .int .i64 n].toArray] h fun v' h' => RepRes h.size h' v' l n ∧ Bel h.size h h' := by
  obtain ⟨p, c, rfl, _⟩ := s.open
  have hcap : l.length ≤ c := hcap
  refine CallsH.of_code2 (args := [_]) Tryd.func59 rfl rfl rfl rfl ?_
  unfold RepRes
  simp (config := {maxSteps := 2000000, implicitDefEqProofs := false}) only [go_sem, ↓reduceIte, Nat.reduceEqDiff, Nat.reduceAdd, Nat.reduceMul, Nat.reduceLeDiff, Nat.reduceLT, Nat.reduceSub, IntWalk.iteOmega, IntWalk.toNatUp, reduceCtorEq, false_and, and_false, false_or, or_false, true_or, or_true, not_true_eq_false, not_false_eq_true, Bool.not_true, Bool.not_false, Bool.and_true, Bool.true_and, Bool.and_false, Bool.false_and, Bool.not_eq_true, beq_self_eq_true, Nat.add_zero, Int.reduceLE, Int.reduceLT, Int.reduceToNat, Int.reduceNeg]
  obtain ⟨h0, hh0⟩ : ∃ h0 : Hp, h0 = (h.push (.cells [.slice p l.length c, .int .i64 n].toArray 65)).push (.cells [.slice none 0 0, .int .i64 0].toArray 65) := ⟨_, rfl⟩
  have b0 : Bel h.size h h0 := by rw [hh0]; exact ((Bel.refl _ _).add _).add _
  have s0 : h0.size = h.size + 2 := by rw [hh0]; simp
  have t0 : h0[h.size]? = some (.cells [.slice p l.length c, .int .i64 n].toArray 65) := by
    rw [hh0, Array.getElem?_push, if_neg (by simp), get_push_last]
  have z0 : h0[h.size + 1]? = some (.cells [.slice none 0 0, .int .i64 0].toArray 65) := by
    rw [hh0, Array.getElem?_push, if_pos (by simp)]
  have e0 : (h.push (.cells #[Value.slice p l.length c, .int .i64 n] 65)).push (.cells #[Value.slice none 0 0, .int .i64 0] 65) = h0 := hh0.symm
  have e0' : (h.push (.cells [Value.slice p l.length c, .int .i64 n].toArray 65)).push (.cells [Value.slice none 0 0, .int .i64 0].toArray 65) = h0 := hh0.symm
  first | rw [e0] | rw [e0']
  clear e0 e0' hh0
  refine (recover_ok T h0 _ n l (s.bel b0) hl (tk.bels b0)).use ?_
  rintro _ h1 ⟨⟨r, k, E, w1, rfl, o1, hk, hr, q⟩, b1⟩
  have s1 := b1.size
  obtain ⟨p1, c1, rfl, _⟩ := o1.open
  unfold accC
  obtain ⟨h2, hh2⟩ : ∃ h2 : Hp, h2 = h1.push (.cells [.int .i64 r.p.r, .int .i64 r.p.n, .slice p1 r.l.length c1].toArray 85) := ⟨_, rfl⟩
  have b2 : Bel h1.size h1 h2 := by rw [hh2]; exact Bel.push (Nat.le_refl _) _
  have s2 : h2.size = h1.size + 1 := by rw [hh2]; simp
  have B2 : Bel h.size h h2 := b0.trans ((b1.mono (by omega)).trans (b2.mono (by omega)))
  have t2 := b2.get (by omega) (b1.get (by omega) t0)
  have z2 := b2.get (by omega) (b1.get (by omega) z0)
  have y2 := wr_get z2 0
  have hlt2 : h.size + 1 < h2.size := by omega
  have eh2 : h1.push (.cells #[Value.int .i64 r.p.r, .int .i64 r.p.n, .slice p1 r.l.length c1] 85) = h2 := hh2.symm
  clear hh2
  by_cases ok : tapeOk l n
  case neg =>
    have q0 := q
    rw [if_neg ok] at q
    obtain ⟨rfl, rfl, rfl⟩ := q
    have z1 := b1.get (by omega) z0
    have y1 := wr_get z1 0
    have hne : ¬ h.size + 1 = h1.size := by omega
    have hlt1 : h.size + 1 < h1.size := by omega
    have B1 : Bel h.size h h1 := b0.trans (b1.mono (by omega))
    simp (config := {maxSteps := 2000000, implicitDefEqProofs := false}) only [go_sem, ↓reduceIte, Nat.reduceEqDiff, Nat.reduceAdd, Nat.reduceMul, Nat.reduceLeDiff, Nat.reduceLT, Nat.reduceSub, IntWalk.iteOmega, IntWalk.toNatUp, reduceCtorEq, false_and, and_false, false_or, or_false, true_or, or_true, not_true_eq_false, not_false_eq_true, Bool.not_true, Bool.not_false, Bool.and_true, Bool.true_and, Bool.and_false, Bool.false_and, Bool.not_eq_true, beq_self_eq_true, Nat.add_zero, Int.reduceLE, Int.reduceLT, Int.reduceToNat, Int.reduceNeg, y1, hne, hlt1]
    refine ⟨⟨acp0, 0, 5, .slice none 0 0, rfl, OBs.nil _ _ _, Nat.zero_le _, q0⟩, ?_⟩
    exact (B1.addSet (by omega) _).addP (by simp; omega) _
  have q0 := q
  rw [if_pos ok] at q
  obtain ⟨rfl, q⟩ := q
  have l1 := ok.1
  have r2 : V.hc h2 ⟨h.size, 0, none⟩ = some (.slice p l.length c) := by rw [hc_last t2]; rfl
  have n2 : V.hc h2 ⟨h.size, 1, none⟩ = some (.int .i64 n) := by rw [hc_last t2]; rfl
  have k1 : (0 : Int) ≤ (k : Int) := by omega
  have k2 : (k : Int) ≤ (c : Int) := by omega
  have q1 : h.size < h2.size := by omega
  simp (config := {maxSteps := 2000000, implicitDefEqProofs := false}) only [go_sem, ↓reduceIte, Nat.reduceEqDiff, Nat.reduceAdd, Nat.reduceMul, Nat.reduceLeDiff, Nat.reduceLT, Nat.reduceSub, IntWalk.iteOmega, IntWalk.toNatUp, reduceCtorEq, false_and, and_false, false_or, or_false, true_or, or_true, not_true_eq_false, not_false_eq_true, Bool.not_true, Bool.not_false, Bool.and_true, Bool.true_and, Bool.and_false, Bool.false_and, Bool.not_eq_true, beq_self_eq_true, Nat.add_zero, Int.reduceLE, Int.reduceLT, Int.reduceToNat, Int.reduceNeg]
  rw [eh2]
  refine VS.w (h2.size) [10, 11] (.q 0 (.q 1 (.q 2 (.q 3 (.q 5 (.q 6 (.q 7 (.q 8 (.s 4 (.q 9 (.w 10 (.w 11 .nil)))))))))))) mixed (by kernel_rfl) ?_
  simp (config := {maxSteps := 2000000, implicitDefEqProofs := false}) only [go_sem, ↓reduceIte, Nat.reduceEqDiff, Nat.reduceAdd, Nat.reduceMul, Nat.reduceLeDiff, Nat.reduceLT, Nat.reduceSub, IntWalk.iteOmega, IntWalk.toNatUp, reduceCtorEq, false_and, and_false, false_or, or_false, true_or, or_true, not_true_eq_false, not_false_eq_true, Bool.not_true, Bool.not_false, Bool.and_true, Bool.true_and, Bool.and_false, Bool.false_and, Bool.not_eq_true, beq_self_eq_true, Nat.add_zero, Int.reduceLE, Int.reduceLT, Int.reduceToNat, Int.reduceNeg, r2, n2, k1, k2, q1, Int.toNat_natCast]
  refine (clone_ok T h2 _ (l.take k) ((s.bel B2).fore hk c) (by rw [List.length_take]; omega)).use ?_
  rintro w3 h3 ⟨o3, b3⟩
  obtain ⟨p3, c3, rfl, _⟩ := o3.open
  have s3 := b3.size
  have z3 := b3.get (by omega) z2
  have hlt3 : h.size + 1 < h3.size := by omega
  have y3 := wr_get z3 0
  simp (config := {maxSteps := 2000000, implicitDefEqProofs := false}) only [go_sem, ↓reduceIte, Nat.reduceEqDiff, Nat.reduceAdd, Nat.reduceMul, Nat.reduceLeDiff, Nat.reduceLT, Nat.reduceSub, IntWalk.iteOmega, IntWalk.toNatUp, reduceCtorEq, false_and, and_false, false_or, or_false, true_or, or_true, not_true_eq_false, not_false_eq_true, Bool.not_true, Bool.not_false, Bool.and_true, Bool.true_and, Bool.and_false, Bool.false_and, Bool.not_eq_true, beq_self_eq_true, Nat.add_zero, Int.reduceLE, Int.reduceLT, Int.reduceToNat, Int.reduceNeg, b3, y3, hlt3]
  refine ⟨⟨r, k, 0, _, rfl, ?_, hk, q0⟩, (B2.trans (b3.mono (by omega))).addSet (by omega) _⟩
  exact (o3.setLow (by omega) _).mono (by omega)
theorem repaired_ok (T : World) (h : Hp) (v : Value) (n : Int) (l : List Nat) (s : Bs h v l) (hcap : Cap v) (hl : l.length ≤ 140737488355328) :
    CallsH Tryd.prog T 60 #[.agg [v, .int .i64 n].toArray] h fun v' h' => RepRes h.size h' v' l n ∧ Bel h.size h h' := by
  obtain ⟨p, c, rfl, _⟩ := s.open
  have hcap' : l.length ≤ c := hcap
  refine CallsH.of_code2 (args := [_]) Tryd.func60 rfl rfl rfl rfl ?_
  unfold RepRes
  simp (config := {maxSteps := 2000000, implicitDefEqProofs := false}) only [go_sem, ↓reduceIte, Nat.reduceEqDiff, Nat.reduceAdd, Nat.reduceMul, Nat.reduceLeDiff, Nat.reduceLT, Nat.reduceSub, IntWalk.iteOmega, IntWalk.toNatUp, reduceCtorEq, false_and, and_false, false_or, or_false, true_or, or_true, not_true_eq_false, not_false_eq_true, Bool.not_true, Bool.not_false, Bool.and_true, Bool.true_and, Bool.and_false, Bool.false_and, Bool.not_eq_true, beq_self_eq_true, Nat.add_zero, Int.reduceLE, Int.reduceLT, Int.reduceToNat, Int.reduceNeg]
  obtain ⟨h0, hh0⟩ : ∃ h0 : Hp, h0 = (h.push (.cells [.slice p l.length c, .int .i64 n].toArray 65)).push (.cells [.slice none 0 0, .int .i64 0].toArray 65) := ⟨_, rfl⟩
  have b0 : Bel h.size h h0 := by rw [hh0]; exact ((Bel.refl _ _).add _).add _
  have s0 : h0.size = h.size + 2 := by rw [hh0]; simp
  have t0 : h0[h.size]? = some (.cells [.slice p l.length c, .int .i64 n].toArray 65) := by
    rw [hh0, Array.getElem?_push, if_neg (by simp), get_push_last]
  have z0 : h0[h.size + 1]? = some (.cells [.slice none 0 0, .int .i64 0].toArray 65) := by
    rw [hh0, Array.getElem?_push, if_pos (by simp)]
  have e0 : (h.push (.cells #[Value.slice p l.length c, .int .i64 n] 65)).push (.cells #[Value.slice none 0 0, .int .i64 0] 65) = h0 := hh0.symm
  have e0' : (h.push (.cells [Value.slice p l.length c, .int .i64 n].toArray 65)).push (.cells [Value.slice none 0 0, .int .i64 0].toArray 65) = h0 := hh0.symm
  first | rw [e0] | rw [e0']
  clear e0 e0' hh0
  refine (recovered_ok T h0 _ n l (s.bel b0) hcap hl).use ?_
  rintro _ h1 ⟨⟨r, k, E, w1, rfl, o1, hk, hr, q⟩, b1⟩
  have s1 := b1.size
  obtain ⟨p1, c1, rfl, _⟩ := o1.open
  unfold accC
  have B1 : Bel h.size h h1 := b0.trans (b1.mono (by omega))
  have t1 := b1.get (by omega) t0
  have z1 := b1.get (by omega) z0
  have hne : ¬ h.size + 1 = h1.size := by omega
  have hne0 : ¬ h.size = h1.size := by omega
  have hlt1 : h.size + 1 < h1.size := by omega
  by_cases ok : tapeOk l n
  case neg =>
    have q0 := q
    rw [if_neg ok] at q
    obtain ⟨rfl, rfl, rfl⟩ := q
    have y1 := wr_get z1 0
    simp (config := {maxSteps := 2000000, implicitDefEqProofs := false}) only [go_sem, ↓reduceIte, Nat.reduceEqDiff, Nat.reduceAdd, Nat.reduceMul, Nat.reduceLeDiff, Nat.reduceLT, Nat.reduceSub, IntWalk.iteOmega, IntWalk.toNatUp, reduceCtorEq, false_and, and_false, false_or, or_false, true_or, or_true, not_true_eq_false, not_false_eq_true, Bool.not_true, Bool.not_false, Bool.and_true, Bool.true_and, Bool.and_false, Bool.false_and, Bool.not_eq_true, beq_self_eq_true, Nat.add_zero, Int.reduceLE, Int.reduceLT, Int.reduceToNat, Int.reduceNeg, y1, hne, hlt1]
    refine ⟨⟨acp0, 0, 5, .slice none 0 0, rfl, OBs.nil _ _ _, Nat.zero_le _, q0⟩, ?_⟩
    exact (B1.addSet (by omega) _).addP (by simp; omega) _
  have q0 := q
  rw [if_pos ok] at q
  obtain ⟨rfl, q⟩ := q
  have l1 := ok.1
  have r1 : V.hc h1 ⟨h.size, 0, none⟩ = some (.slice p l.length c) := by rw [hc_last t1]; rfl
  have n1 : V.hc h1 ⟨h.size, 1, none⟩ = some (.int .i64 n) := by rw [hc_last t1]; rfl
  have k1 : (0 : Int) ≤ (k : Int) := by omega
  have k2 : (k : Int) ≤ (c : Int) := by omega
  have bp : Bel h1.size h1 (h1.push (.cells [.int .i64 r.p.r, .int .i64 r.p.n, .slice p1 r.l.length c1].toArray 85)) := Bel.push (Nat.le_refl _) _
  have sT : Bs (h1.push (.cells [.int .i64 r.p.r, .int .i64 r.p.n, .slice p1 r.l.length c1].toArray 85)) (.slice p k c) (l.take k) := ((s.bel B1).bel bp).fore hk c
  by_cases qm : (k : Int) < n
  · simp (config := {maxSteps := 2000000, implicitDefEqProofs := false}) only [go_sem, ↓reduceIte, Nat.reduceEqDiff, Nat.reduceAdd, Nat.reduceMul, Nat.reduceLeDiff, Nat.reduceLT, Nat.reduceSub, IntWalk.iteOmega, IntWalk.toNatUp, reduceCtorEq, false_and, and_false, false_or, or_false, true_or, or_true, not_true_eq_false, not_false_eq_true, Bool.not_true, Bool.not_false, Bool.and_true, Bool.true_and, Bool.and_false, Bool.false_and, Bool.not_eq_true, beq_self_eq_true, Nat.add_zero, Int.reduceLE, Int.reduceLT, Int.reduceToNat, Int.reduceNeg, r1, n1, hne0, k1, k2, qm, Int.toNat_natCast]
    refine (joined_ok T _ _ _ (l.take k) [] sT (OBs.nil 0 0 _).bs (by rw [List.length_take, List.length_nil]; omega)).use ?_
    rintro w3 h3 ⟨o3, b3⟩
    rw [List.append_nil] at o3
    obtain ⟨p3, c3, rfl, _⟩ := o3.open
    have b13 : Bel h1.size h1 h3 := bp.trans (b3.mono (by simp))
    have s3 := b13.size
    have z3 := b13.get (by omega) z1
    have hlt3 : h.size + 1 < h3.size := by omega
    have y3 := wr_get z3 0
    simp (config := {maxSteps := 2000000, implicitDefEqProofs := false}) only [go_sem, ↓reduceIte, Nat.reduceEqDiff, Nat.reduceAdd, Nat.reduceMul, Nat.reduceLeDiff, Nat.reduceLT, Nat.reduceSub, IntWalk.iteOmega, IntWalk.toNatUp, reduceCtorEq, false_and, and_false, false_or, or_false, true_or, or_true, not_true_eq_false, not_false_eq_true, Bool.not_true, Bool.not_false, Bool.and_true, Bool.true_and, Bool.and_false, Bool.false_and, Bool.not_eq_true, beq_self_eq_true, Nat.add_zero, Int.reduceLE, Int.reduceLT, Int.reduceToNat, Int.reduceNeg, y3, hlt3]
    refine ⟨⟨r, k, 0, _, by rw [if_pos rfl, if_pos qm], ?_, hk, q0⟩, (B1.trans (b13.mono (by omega))).addSet (by omega) _⟩
    exact (o3.setLow (by simp; omega) _).mono (by simp; omega)
  · simp (config := {maxSteps := 2000000, implicitDefEqProofs := false}) only [go_sem, ↓reduceIte, Nat.reduceEqDiff, Nat.reduceAdd, Nat.reduceMul, Nat.reduceLeDiff, Nat.reduceLT, Nat.reduceSub, IntWalk.iteOmega, IntWalk.toNatUp, reduceCtorEq, false_and, and_false, false_or, or_false, true_or, or_true, not_true_eq_false, not_false_eq_true, Bool.not_true, Bool.not_false, Bool.and_true, Bool.true_and, Bool.and_false, Bool.false_and, Bool.not_eq_true, beq_self_eq_true, Nat.add_zero, Int.reduceLE, Int.reduceLT, Int.reduceToNat, Int.reduceNeg, r1, n1, hne0, k1, k2, qm, Int.toNat_natCast]
    refine (joined_ok T _ _ _ (l.take k) [] sT (OBs.nil 0 0 _).bs (by rw [List.length_take, List.length_nil]; omega)).use ?_
    rintro w3 h3 ⟨o3, b3⟩
    rw [List.append_nil] at o3
    obtain ⟨p3, c3, rfl, _⟩ := o3.open
    have b13 : Bel h1.size h1 h3 := bp.trans (b3.mono (by simp))
    have s3 := b13.size
    have z3 := b13.get (by omega) z1
    have hlt3 : h.size + 1 < h3.size := by omega
    have y3 := wr_get z3 0
    simp (config := {maxSteps := 2000000, implicitDefEqProofs := false}) only [go_sem, ↓reduceIte, Nat.reduceEqDiff, Nat.reduceAdd, Nat.reduceMul, Nat.reduceLeDiff, Nat.reduceLT, Nat.reduceSub, IntWalk.iteOmega, IntWalk.toNatUp, reduceCtorEq, false_and, and_false, false_or, or_false, true_or, or_true, not_true_eq_false, not_false_eq_true, Bool.not_true, Bool.not_false, Bool.and_true, Bool.true_and, Bool.and_false, Bool.false_and, Bool.not_eq_true, beq_self_eq_true, Nat.add_zero, Int.reduceLE, Int.reduceLT, Int.reduceToNat, Int.reduceNeg, y3, hlt3]
    refine ⟨⟨r, k, 0, _, by rw [if_pos rfl, if_neg qm], ?_, hk, q0⟩, (B1.trans (b13.mono (by omega))).addSet (by omega) _⟩
    exact (o3.setLow (by simp; omega) _).mono (by simp; omega)
end Go.Proofs.YtnpacofabdgcdaaDoor
namespace Go.Proofs.YtnpacofabdgcdaaDoor
open Go Go.V
set_option linter.unusedSimpArgs false
set_option linter.unusedVariables false
set_option maxRecDepth 100000
theorem stableRepairs_ok : LawOkL Tryd.prog Tk 17 Tryd.f17.params.toList := by
  intro T args tk hfit
  rw [show Tryd.f17.params.toList = [65] from rfl] at hfit
  obtain ⟨v, _, rfl, ⟨k1, h1⟩, hfit⟩ := fitAll_cons hfit
  obtain rfl := fitAll_nil hfit
  obtain ⟨w, n, l, rfl, s, hl, hcap⟩ := tapeArg h1
  clear h1
  generalize T.heap = h at *
  obtain ⟨p, c, rfl, hc1⟩ := s.open
  refine CallsH.of_code' (args := [_]) Tryd.func17 rfl rfl rfl rfl ?_
  simp (config := {maxSteps := 2000000, implicitDefEqProofs := false}) only [go_sem, ↓reduceIte, Nat.reduceEqDiff, Nat.reduceAdd, Nat.reduceMul, Nat.reduceLeDiff, Nat.reduceLT, Nat.reduceSub, IntWalk.iteOmega, IntWalk.toNatUp, reduceCtorEq, false_and, and_false, false_or, or_false, true_or, or_true, not_true_eq_false, not_false_eq_true, Bool.not_true, Bool.not_false, Bool.and_true, Bool.true_and, Bool.and_false, Bool.false_and, Bool.not_eq_true, beq_self_eq_true, Nat.add_zero, Int.reduceLE, Int.reduceLT, Int.reduceToNat, Int.reduceNeg]
  obtain ⟨h0, hh0⟩ : ∃ h0 : Hp, h0 = h.push (.cells [.slice p l.length c, .int .i64 n].toArray 65) := ⟨_, rfl⟩
  have b0 : Bel h.size h h0 := by rw [hh0]; exact (Bel.refl _ _).add _
  have s0 : h0.size = h.size + 1 := by rw [hh0]; simp
  have t0 : h0[h.size]? = some (.cells [.slice p l.length c, .int .i64 n].toArray 65) := by rw [hh0, get_push_last]
  have e0 : h.push (.cells #[Value.slice p l.length c, .int .i64 n] 65) = h0 := hh0.symm
  have e0' : h.push (.cells [Value.slice p l.length c, .int .i64 n].toArray 65) = h0 := hh0.symm
  first | rw [e0] | rw [e0']
  clear e0 e0' hh0
  refine (tapes_ok T h0 _ n l (s.bel b0) hl).use ?_
  rintro _ h1 ⟨w1, rfl, o1, b1⟩
  have B1 := b0.trans (b1.mono b0.size)
  have z1 := b1.size
  obtain ⟨p1, c1, rfl, _⟩ := o1.bs.open
  have t01 := b1.get (by omega) t0
  simp (config := {maxSteps := 2000000, implicitDefEqProofs := false}) only [go_sem, ↓reduceIte, Nat.reduceEqDiff, Nat.reduceAdd, Nat.reduceMul, Nat.reduceLeDiff, Nat.reduceLT, Nat.reduceSub, IntWalk.iteOmega, IntWalk.toNatUp, reduceCtorEq, false_and, and_false, false_or, or_false, true_or, or_true, not_true_eq_false, not_false_eq_true, Bool.not_true, Bool.not_false, Bool.and_true, Bool.true_and, Bool.and_false, Bool.false_and, Bool.not_eq_true, beq_self_eq_true, Nat.add_zero, Int.reduceLE, Int.reduceLT, Int.reduceToNat, Int.reduceNeg]
  obtain ⟨h2, hh2⟩ : ∃ h2 : Hp, h2 = h1.push (.cells [.slice p1 l.length c1, .int .i64 n].toArray 65) := ⟨_, rfl⟩
  have b2 : Bel h1.size h1 h2 := by rw [hh2]; exact Bel.push (Nat.le_refl _) _
  have z2 : h2.size = h1.size + 1 := by rw [hh2]; simp
  have x2 : h2[h1.size]? = some (.cells [.slice p1 l.length c1, .int .i64 n].toArray 65) := by rw [hh2]; exact get_push_last
  have eh2 : h1.push (.cells #[Value.slice p1 l.length c1, .int .i64 n] 65) = h2 := hh2.symm
  rw [eh2]
  clear eh2 hh2
  have B2 := B1.trans (b2.mono B1.size)
  refine (repair_ok T h2 _ n l ((o1.bel b2 (Nat.le_refl _)).bs) (o1.cap) hl (tk.bels B2)).use ?_
  rintro _ h3 ⟨⟨r, k, E, w3, rfl, o3, hk3, q3⟩, b3⟩
  obtain ⟨Z, hZ⟩ : ∃ Z : Int, Z = if E = 0 then (if (k : Int) < n then (k : Int) else n) else 0 := ⟨_, rfl⟩
  obtain ⟨L, hL⟩ : ∃ L : List Nat, L = if E = 0 then l.take k else [] := ⟨_, rfl⟩
  rw [← hL] at o3
  rw [← hZ]
  obtain ⟨p3, c3, rfl, _⟩ := o3.open
  have B3 := B2.trans (b3.mono B2.size)
  have z3 := b3.size
  have t03 := b3.get (by omega) (b2.get (by omega) t01)
  have x3 := b3.get (by omega) x2
  have r03 := rd_last t03 (n := 2) rfl
  have e03 : ¬ h.size = h3.size := by omega
  simp (config := {maxSteps := 2000000, implicitDefEqProofs := false}) only [go_sem, ↓reduceIte, Nat.reduceEqDiff, Nat.reduceAdd, Nat.reduceMul, Nat.reduceLeDiff, Nat.reduceLT, Nat.reduceSub, IntWalk.iteOmega, IntWalk.toNatUp, reduceCtorEq, false_and, and_false, false_or, or_false, true_or, or_true, not_true_eq_false, not_false_eq_true, Bool.not_true, Bool.not_false, Bool.and_true, Bool.true_and, Bool.and_false, Bool.false_and, Bool.not_eq_true, beq_self_eq_true, Nat.add_zero, Int.reduceLE, Int.reduceLT, Int.reduceToNat, Int.reduceNeg, r03, e03]
  obtain ⟨h4, hh4⟩ : ∃ h4 : Hp, h4 = h3.push (.cells [.slice p3 L.length c3, .int .i64 Z].toArray 65) := ⟨_, rfl⟩
  have b4 : Bel h3.size h3 h4 := by rw [hh4]; exact Bel.push (Nat.le_refl _) _
  have z4 : h4.size = h3.size + 1 := by rw [hh4]; simp
  have x4 : h4[h3.size]? = some (.cells [.slice p3 L.length c3, .int .i64 Z].toArray 65) := by rw [hh4]; exact get_push_last
  have eh4 : h3.push (.cells #[Value.slice p3 L.length c3, .int .i64 Z] 65) = h4 := hh4.symm
  rw [eh4]
  clear eh4 hh4
  have B4 := B3.trans (b4.mono B3.size)
  refine (repaired_ok T h4 _ n l (s.bel B4) hcap hl).use ?_
  rintro _ h5 ⟨⟨r', k', E', w5, rfl, o5, hk5, q5⟩, b5⟩
  obtain ⟨rfl, rfl, rfl⟩ := rec_eq q3 q5
  rw [← hL] at o5
  rw [← hZ]
  obtain ⟨p5, c5, rfl, _⟩ := o5.open
  have B5 := B4.trans (b5.mono B4.size)
  have z5 := b5.size
  have t05 := b5.get (by omega) (b4.get (by omega) t03)
  have x35 := b5.get (by omega) (b4.get (by omega) x3)
  have x45 := b5.get (by omega) x4
  have r45 := rd_last x45 (n := 2) rfl
  have e45 : ¬ h3.size = h5.size := by omega
  simp (config := {maxSteps := 2000000, implicitDefEqProofs := false}) only [go_sem, ↓reduceIte, Nat.reduceEqDiff, Nat.reduceAdd, Nat.reduceMul, Nat.reduceLeDiff, Nat.reduceLT, Nat.reduceSub, IntWalk.iteOmega, IntWalk.toNatUp, reduceCtorEq, false_and, and_false, false_or, or_false, true_or, or_true, not_true_eq_false, not_false_eq_true, Bool.not_true, Bool.not_false, Bool.and_true, Bool.true_and, Bool.and_false, Bool.false_and, Bool.not_eq_true, beq_self_eq_true, Nat.add_zero, Int.reduceLE, Int.reduceLT, Int.reduceToNat, Int.reduceNeg, r45, e45]
  have b35 : Bel h3.size h3 h5 := b4.trans (b5.mono (by omega))
  have pB := Bel.push (Nat.le_refl h5.size) (Obj.cells [.slice p5 L.length c5, .int .i64 Z].toArray 65)
  refine (sameTape_ok T _ _ _ Z Z L L ((o3.bs.bel b35).bel pB) (o5.bs.bel pB)).use ?_
  rintro _ h6 ⟨rfl, b6⟩
  have B6 : Bel h5.size h5 h6 := pB.trans (b6.mono (by simp))
  have z6 := B6.size
  have t06 := B6.get (by omega) t05
  have x36 := B6.get (by omega) x35
  have r06 := rd_last t06 (n := 2) rfl
  have r36 := rd_last x36 (n := 2) rfl
  simp (config := {maxSteps := 2000000, implicitDefEqProofs := false}) only [go_sem, ↓reduceIte, Nat.reduceEqDiff, Nat.reduceAdd, Nat.reduceMul, Nat.reduceLeDiff, Nat.reduceLT, Nat.reduceSub, IntWalk.iteOmega, IntWalk.toNatUp, reduceCtorEq, false_and, and_false, false_or, or_false, true_or, or_true, not_true_eq_false, not_false_eq_true, Bool.not_true, Bool.not_false, Bool.and_true, Bool.true_and, Bool.and_false, Bool.false_and, Bool.not_eq_true, beq_self_eq_true, Nat.add_zero, Int.reduceLE, Int.reduceLT, Int.reduceToNat, Int.reduceNeg, r06, r36]
  have B16 : Bel h1.size h1 h6 := b2.trans ((b3.mono (by omega)).trans ((b4.mono (by omega)).trans ((b5.mono (by omega)).trans (B6.mono (by omega)))))
  have BB6 := B5.trans (B6.mono B5.size)
  refine (sameTape_ok T _ _ _ n n l l ((o1.bel B16 (Nat.le_refl _)).bs) (s.bel BB6)).use ?_
  rintro _ h7 ⟨rfl, b7⟩
  simp (config := {maxSteps := 2000000, implicitDefEqProofs := false}) only [go_sem, ↓reduceIte, Nat.reduceEqDiff, Nat.reduceAdd, Nat.reduceMul, Nat.reduceLeDiff, Nat.reduceLT, Nat.reduceSub, IntWalk.iteOmega, IntWalk.toNatUp, reduceCtorEq, false_and, and_false, false_or, or_false, true_or, or_true, not_true_eq_false, not_false_eq_true, Bool.not_true, Bool.not_false, Bool.and_true, Bool.true_and, Bool.and_false, Bool.false_and, Bool.not_eq_true, beq_self_eq_true, Nat.add_zero, Int.reduceLE, Int.reduceLT, Int.reduceToNat, Int.reduceNeg]
  exact BB6.trans (b7.mono BB6.size)
end Go.Proofs.YtnpacofabdgcdaaDoor
namespace Go.Proofs.YtnpacofabdgcdaaDoor
open Go Go.V
set_option linter.unusedSimpArgs false
set_option linter.unusedVariables false
set_option maxRecDepth 100000
set_option maxRecDepth 100000 in
theorem stableRepairs_lifted (os : Os) (started : os.Started) (H : Type) (enc : TypeId × Value → H) :
    ReturnsInHanded {} Tryd.checked os 17 .any (fun w args => (Rows.stableRepairsSpec.pre enc Tryd.prog Tryd.f17 [] false w args ∧ laidMetH Tryd.prog Rows.stableRepairsRow.laid w) ∧ sizedMet enc Tryd.prog Tryd.f17 (OpenSpec.ofChange Rows.stableRepairsSpec) false w args)
      (Rows.stableRepairsSpec.post enc Tryd.prog Tryd.f17 false true false false) :=
  law_liftedL (C := Tryd.checked) (laid := Rows.stableRepairsRow.laid) ownKnobT started (by kernel_rfl) Tryd.func17
    (ChangeSpec.witness_shaped (enc := enc) (C := Tryd.checked) (os := os) (X := fun w _ => laidMetH Tryd.prog Rows.stableRepairsRow.laid w) false (World.doorLaid Tryd.prog 87 os) #[.agg [.slice none 0 0, .int .i64 0].toArray] 12 rfl (doorShaped os _) (by kernel_rfl) (by kernel_rfl) (by kernel_rfl) (doorSha os _))
    laidOutT (by kernel_rfl) (by kernel_rfl) (tb := 4) rfl Tryd.underlying4 rfl (fun ds hd => by
      have hl : ds.length = 1 := hd
      match ds, hl with
      | [d0], _ => rfl) (fun W h => shaTab h) stableRepairs_ok
theorem stableRepairs_said : Rows.StableRepairsSaid :=
  OpenClaim.holds_of_wide 17 Tryd.f17 rfl rfl rfl rfl rfl rfl rfl ⟨rfl, rfl, rfl, rfl, rfl⟩ rfl rfl rfl rfl rfl (by kernel_rfl) Tryd.func17 (show joinedFacts Tryd.prog 17 Tryd.f17 Rows.stableRepairsSpec Rows.stableRepairsRow = true by unfold joinedFacts; rw [makeT, enterT, liftsT]; kernel_rfl)
    (of_decide_eq_true (by kernel_rfl)) (by unfold Func.isWrapper; rw [if_neg (of_decide_eq_false (by kernel_rfl))]; exact ⟨rfl, rfl⟩)
    (fun os started H enc _ => stableRepairs_lifted os started H enc)
theorem stableRepairs_plain (f : FuncId) (fn : Func) (hf : Tryd.pinned.checked.prog.funcNamed "conclave/conclavelaw.StableRepairs" = some f) (hfn : Tryd.pinned.checked.prog.funcs[f]? = some fn) :
    true = Tryd.pinned.checked.prog.looks [] ∧ ∀ (j : Nat) t, fn.params[j]? = some t → Tryd.pinned.checked.prog.wantsStandIn t = false := by
  obtain rfl : f = 17 := Option.some.inj ((show Tryd.prog.funcNamed "conclave/conclavelaw.StableRepairs" = some 17 by kernel_rfl).symm.trans hf) |>.symm
  obtain rfl : fn = Tryd.f17 := (Option.some.inj (Tryd.func17.symm.trans hfn)).symm
  refine ⟨by kernel_rfl, fun j t ht => ?_⟩
  have hm : t ∈ Tryd.f17.params.toList := by simpa using Array.mem_of_getElem? ht
  have hall : (Tryd.f17.params.toList.all fun u => !Tryd.prog.wantsStandIn u) = true := by kernel_rfl
  exact (show Tryd.prog.wantsStandIn t = false by simpa using List.all_eq_true.1 hall t hm)
theorem stableRepairs_card : Rows.StableRepairsCardSaid :=
  Claim7.holds_tied_plain_at .later [] _ _ _ _ stableRepairs_said (fun _ h => by cases h) (by kernel_rfl) (fun _ h => by cases h) stableRepairs_row_tie rfl ⟨rfl, rfl⟩ (main_words (L := headCodes.map Char.ofNat) (by kernel_rfl) (by kernel_rfl)) rfl stableRepairs_plain (by kernel_rfl)
end Go.Proofs.YtnpacofabdgcdaaDoor
