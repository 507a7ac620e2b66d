/- A vote, written on a tape: what the program and the document compute; no condition but those in the statements. -/
import Derived.Test.YtnpacofabdgcdaaDoorStp
import Derived.Test.YtnpacofabdgcdaaDoorAcr
import Derived.Test.YtnpacofabdgcdaaDoorEnc
namespace Go.Proofs.YtnpacofabdgcdaaDoor
open Go Go.V
set_option linter.unusedSimpArgs false
set_option linter.unusedVariables false
set_option maxRecDepth 100000
def votErr (l : List Nat) (n : Int) (x : Vt) : Int := if ¬ tapeOk l n then 5 else if ¬ voteMay x then 2 else wrtErr l n 33
def votB (x : Vt) : List Nat := 2 :: (cmdBytes [x.slot.toNat, x.b.r.toNat, x.b.n.toNat] ++ cmdBytes [x.k.toNat, x.c.toNat, x.s.toNat, x.nm.toNat, x.v.toNat])
theorem acErr_none (x : Vt) : acErr ⟨0, 0⟩ [] x = if voteMay x then 0 else 2 := by
  have e : accErr ⟨0, 0⟩ [] = 0 := rfl
  unfold acErr
  rw [if_neg (by rw [e]; decide)]
  by_cases q : voteMay x
  · rw [if_neg (fun hn => hn q), if_pos q, if_neg]
    intro hb
    have q1 := q.2.1.1.1
    rcases hb with hb | ⟨hb, _⟩ <;> simp at hb <;> omega
  · rw [if_pos q, if_neg q]
theorem sVote_ok (T : World) (h : Hp) (v : Value) (n : Int) (l : List Nat) (x : Vt) (s : Bs h v l) (hl : l.length ≤ 140737488355328) (tk : Tk h) :
    CallsH Tryd.prog T 54 #[.agg [v, .int .i64 n].toArray, .agg (voteC x).toArray] h fun v' h' => WrtRes h.size h' v' l n (votErr l n x) (frmS (votB x)) ∧ Bel h.size h h' := by
  obtain ⟨p, c, rfl, _⟩ := s.open
  refine CallsH.of_code' (args := [_, _]) Tryd.func54 rfl rfl rfl rfl ?_
  unfold WrtRes voteC
  simp (config := {maxSteps := 2000000, implicitDefEqProofs := false}) only [go_sem, ↓reduceIte, Nat.reduceEqDiff, Nat.reduceAdd, Nat.reduceMul, Nat.reduceLeDiff, Nat.reduceLT, Nat.reduceSub, IntWalk.iteOmega, IntWalk.toNatUp, reduceCtorEq, false_and, and_false, false_or, or_false, true_or, or_true, not_true_eq_false, not_false_eq_true, Bool.not_true, Bool.not_false, Bool.and_true, Bool.true_and, Bool.and_false, Bool.false_and, Bool.not_eq_true, beq_self_eq_true, Nat.add_zero, Int.reduceLE, Int.reduceLT, Int.reduceToNat, Int.reduceNeg]
  obtain ⟨h0, hh0⟩ : ∃ h0 : Hp, h0 = ((h.push (.cells [.slice p l.length c, .int .i64 n].toArray 65)).push (.cells (voteC x).toArray 80)).push (.cells [.slice none 0 0, .int .i64 0].toArray 65) := ⟨_, rfl⟩
  have b0 : Bel h.size h h0 := by rw [hh0]; exact (((Bel.refl _ _).add _).add _).add _
  have s0 : h0.size = h.size + 3 := by rw [hh0]; simp
  have t0 : h0[h.size]? = some (.cells [.slice p l.length c, .int .i64 n].toArray 65) := by
    rw [hh0, Array.getElem?_push, if_neg (by simp; omega), Array.getElem?_push, if_neg (by simp), get_push_last]
  have t1 : h0[h.size + 1]? = some (.cells (voteC x).toArray 80) := by
    rw [hh0, Array.getElem?_push, if_neg (by simp), Array.getElem?_push, if_pos (by simp)]
  have x0 : h0[h.size + 2]? = some (.cells [.slice none 0 0, .int .i64 0].toArray 65) := by
    rw [hh0, Array.getElem?_push, if_pos (by simp)]
  have e0 : ((h.push (.cells #[Value.slice p l.length c, .int .i64 n] 65)).push (.cells #[Value.int .i64 x.slot, .int .i64 x.b.r, .int .i64 x.b.n, .int .i64 x.k, .int .i64 x.c, .int .i64 x.s, .int .i64 x.nm, .int .i64 x.v] 80)).push (.cells #[Value.slice none 0 0, .int .i64 0] 65) = h0 := hh0.symm
  rw [e0]
  clear e0 hh0
  refine (open_ok T h0 _ n l (s.bel b0) hl).use ?_
  rintro _ h1 ⟨b1, o1⟩
  have s1 := b1.size
  have B1 : Bel h.size h h1 := b0.trans (b1.mono (by omega))
  have x1 := b1.get (by omega) x0
  by_cases ok : tapeOk l n
  case neg =>
    have ee : votErr l n x = 5 := by unfold votErr; rw [if_pos ok]
    rw [if_neg (show ¬ (l.length ≤ 100000 ∧ 0 ≤ n ∧ n ≤ l.length) from ok)] at o1
    subst o1
    rw [ee]
    have y2 := wr_get x1 0
    have hlt : h.size + 2 < h1.size := by omega
    have hne : ¬ h.size + 2 = h1.size := by omega
    simp (config := {maxSteps := 2000000, implicitDefEqProofs := false}) only [go_sem, ↓reduceIte, Nat.reduceEqDiff, Nat.reduceAdd, Nat.reduceMul, Nat.reduceLeDiff, Nat.reduceLT, Nat.reduceSub, IntWalk.iteOmega, IntWalk.toNatUp, reduceCtorEq, false_and, and_false, false_or, or_false, true_or, or_true, not_true_eq_false, not_false_eq_true, Bool.not_true, Bool.not_false, Bool.and_true, Bool.true_and, Bool.and_false, Bool.false_and, Bool.not_eq_true, beq_self_eq_true, Nat.add_zero, Int.reduceLE, Int.reduceLT, Int.reduceToNat, Int.reduceNeg, y2, hne, hlt]
    exact ⟨⟨_, rfl, OBs.nil _ _ _⟩, (B1.addSet (by omega) _).addP (by simp; omega) _⟩
  rw [if_pos (show (l.length ≤ 100000 ∧ 0 ≤ n ∧ n ≤ l.length) from ok)] at o1
  obtain ⟨w, rfl, o1⟩ := o1
  obtain ⟨pw, cw, rfl, _⟩ := o1.open
  have bt1 := b1.get (by omega) t1
  have r1 : rd h1 ⟨h.size + 1, 0, none⟩ 8 = some (voteC x) := rd_last bt1 rfl
  unfold voteC at r1
  have hne1 : ¬ h.size + 1 = h1.size := by omega
  simp (config := {maxSteps := 2000000, implicitDefEqProofs := false}) only [go_sem, ↓reduceIte, Nat.reduceEqDiff, Nat.reduceAdd, Nat.reduceMul, Nat.reduceLeDiff, Nat.reduceLT, Nat.reduceSub, IntWalk.iteOmega, IntWalk.toNatUp, reduceCtorEq, false_and, and_false, false_or, or_false, true_or, or_true, not_true_eq_false, not_false_eq_true, Bool.not_true, Bool.not_false, Bool.and_true, Bool.true_and, Bool.and_false, Bool.false_and, Bool.not_eq_true, beq_self_eq_true, Nat.add_zero, Int.reduceLE, Int.reduceLT, Int.reduceToNat, Int.reduceNeg, r1, hne1]
  have b2 : Bel h1.size h1 (h1.push (.cells [.slice pw l.length cw, .int .i64 n].toArray 65)) := Bel.push (Nat.le_refl _) _
  refine (accept_ok T _ ⟨0, 0⟩ (.slice none 0 0) [] x (Ots.nil 0 80 voteC 8 _).ts (by simp)).use ?_
  rintro _ h3 ⟨⟨w1, rfl, q1⟩, b3⟩
  have B3 : Bel h1.size h1 h3 := b2.trans (b3.mono b2.size)
  rw [acErr_none] at q1 ⊢
  obtain ⟨p1, c1, hw1, _⟩ := q1.open
  have s3 := B3.size
  have x3 := B3.get (by omega) x1
  have Bh3 := B1.trans (B3.mono (by omega))
  by_cases may : voteMay x
  case neg =>
    have ee : votErr l n x = 2 := by unfold votErr; rw [if_neg (fun hn => hn ok), if_pos may]
    rw [if_neg may] at hw1
    rw [ee, if_neg may]
    subst hw1
    have y2 := wr_get x3 0
    have hlt : h.size + 2 < h3.size := by omega
    have hne : ¬ h.size + 2 = h3.size := by omega
    unfold accC
    simp (config := {maxSteps := 2000000, implicitDefEqProofs := false}) only [go_sem, ↓reduceIte, Nat.reduceEqDiff, Nat.reduceAdd, Nat.reduceMul, Nat.reduceLeDiff, Nat.reduceLT, Nat.reduceSub, IntWalk.iteOmega, IntWalk.toNatUp, reduceCtorEq, false_and, and_false, false_or, or_false, true_or, or_true, not_true_eq_false, not_false_eq_true, Bool.not_true, Bool.not_false, Bool.and_true, Bool.true_and, Bool.and_false, Bool.false_and, Bool.not_eq_true, beq_self_eq_true, Nat.add_zero, Int.reduceLE, Int.reduceLT, Int.reduceToNat, Int.reduceNeg, y2, hne, hlt]
    exact ⟨⟨_, rfl, OBs.nil _ _ _⟩, (Bh3.addSet (by omega) _).addP (by simp; omega) _⟩
  have ee : votErr l n x = wrtErr l n 33 := by unfold votErr; rw [if_neg (fun hn => hn ok), if_neg (fun hn => hn may)]
  rw [if_pos may] at hw1
  rw [ee, if_pos may]
  obtain ⟨⟨m1, m2⟩, ⟨⟨m3, m4⟩, m5, m6⟩, mc⟩ := may
  obtain ⟨xs, ⟨br, bn⟩, xk, xc, xss, xn, xv⟩ := x
  simp only at m1 m2 m3 m4 m5 m6 mc
  obtain ⟨k, c2, s2, nm, vv, rfl, rfl, rfl, rfl, rfl, _⟩ := cmdErr_zero mc
  obtain ⟨sl, rfl⟩ : ∃ r : Nat, xs = r := ⟨xs.toNat, by omega⟩
  obtain ⟨r, rfl⟩ : ∃ r : Nat, br = r := ⟨br.toNat, by omega⟩
  obtain ⟨m, rfl⟩ : ∃ m : Nat, bn = m := ⟨bn.toNat, by omega⟩
  unfold votB
  rw [if_pos rfl] at hw1
  subst hw1
  unfold accC
  have t3 := B3.get (by omega) (b1.get (by omega) t0)
  have t13 := B3.get (by omega) bt1
  have rc : rd h3 ⟨h.size + 1, 3, none⟩ 5 = some (cmdC k c2 s2 nm vv) := by rw [rd_part t13 (by simp [voteC])]; rfl
  unfold cmdC at rc
  have hne3 : ¬ h.size + 1 = h3.size := by omega
  simp (config := {maxSteps := 2000000, implicitDefEqProofs := false}) only [go_sem, ↓reduceIte, Nat.reduceEqDiff, Nat.reduceAdd, Nat.reduceMul, Nat.reduceLeDiff, Nat.reduceLT, Nat.reduceSub, IntWalk.iteOmega, IntWalk.toNatUp, reduceCtorEq, false_and, and_false, false_or, or_false, true_or, or_true, not_true_eq_false, not_false_eq_true, Bool.not_true, Bool.not_false, Bool.and_true, Bool.true_and, Bool.and_false, Bool.false_and, Bool.not_eq_true, beq_self_eq_true, Nat.add_zero, Int.reduceLE, Int.reduceLT, Int.reduceToNat, Int.reduceNeg, rc, hne3]
  obtain ⟨g0, hg0⟩ : ∃ g0 : Hp, g0 = h3.push (.cells [.int .i64 (r : Nat), .int .i64 (m : Nat), .slice p1 (insV [] ⟨sl, ⟨r, m⟩, k, c2, s2, nm, vv⟩).length c1].toArray 85) := ⟨_, rfl⟩
  have e3 : h3.push (.cells #[Value.int .i64 (r : Nat), .int .i64 (m : Nat), .slice p1 (insV [] ⟨sl, ⟨r, m⟩, k, c2, s2, nm, vv⟩).length c1] 85) = g0 := hg0.symm
  rw [e3]
  have bg0 : Bel h3.size h3 g0 := by rw [hg0]; exact Bel.push (Nat.le_refl _) _
  have sg0 : g0.size = h3.size + 1 := by rw [hg0]; simp
  clear e3 hg0
  refine (encode_ok T g0 k c2 s2 nm vv).use ?_
  rintro _ g ⟨⟨wc, rfl, sC⟩, bg1⟩
  rw [mc, if_pos rfl] at sC
  simp only [Int.toNat_natCast] at sC ⊢
  rw [mc]
  have lC : (cmdBytes [k, c2, s2, nm, vv]).length = 20 := by rw [cmdBytes_length]; rfl
  generalize cmdBytes [k, c2, s2, nm, vv] = CB at *
  obtain ⟨pc, cc, rfl, _⟩ := sC.open
  have bg : Bel h3.size h3 g := bg0.trans (bg1.mono (by omega))
  have sg : h3.size + 1 ≤ g.size := by have := bg1.size; omega
  have Bg : Bel h.size h g := Bh3.trans (bg.mono (by omega))
  have x4g := bg.get (by omega) x3
  have t4 := bg.get (by omega) t3
  have t14 := bg.get (by omega) t13
  have r0 : rd g ⟨h.size, 0, none⟩ 2 = some [.slice p l.length c, .int .i64 n] := rd_last t4 rfl
  have c0 : V.hc g ⟨h.size + 1, 0, none⟩ = some (.int .i64 (sl : Nat)) := by rw [hc_last t14]; rfl
  have c1' : V.hc g ⟨h.size + 1, 1, none⟩ = some (.int .i64 (r : Nat)) := by rw [hc_last t14]; rfl
  have c2' : V.hc g ⟨h.size + 1, 2, none⟩ = some (.int .i64 (m : Nat)) := by rw [hc_last t14]; rfl
  have k0 : h.size < g.size := by omega
  have k1 : h.size + 1 < g.size := by omega
  simp (config := {maxSteps := 2000000, implicitDefEqProofs := false}) only [go_sem, ↓reduceIte, Nat.reduceEqDiff, Nat.reduceAdd, Nat.reduceMul, Nat.reduceLeDiff, Nat.reduceLT, Nat.reduceSub, IntWalk.iteOmega, IntWalk.toNatUp, reduceCtorEq, false_and, and_false, false_or, or_false, true_or, or_true, not_true_eq_false, not_false_eq_true, Bool.not_true, Bool.not_false, Bool.and_true, Bool.true_and, Bool.and_false, Bool.false_and, Bool.not_eq_true, beq_self_eq_true, Nat.add_zero, Int.reduceLE, Int.reduceLT, Int.reduceToNat, Int.reduceNeg]
  refine VS.w (g.size) [18, 19] (.q 0 (.q 2 (.q 3 (.q 4 (.q 5 (.q 6 (.q 7 (.q 8 (.q 9 (.q 13 (.or 1 (.s 10 (.s 11 (.s 12 (.s 14 (.s 15 (.q 16 (.q 17 (.w 18 (.w 19 .nil))))))))) (.s 10 (.or 1 (.s 11 (.s 12 (.s 14 (.s 15 (.q 16 (.q 17 (.w 18 (.w 19 .nil)))))))) (.s 11 (.s 1 (.s 12 (.s 14 (.s 15 (.q 16 (.q 17 (.w 18 (.w 19 .nil)))))))))))))))))))))) mixed (by kernel_rfl) ?_
  simp (config := {maxSteps := 2000000, implicitDefEqProofs := false}) only [go_sem, ↓reduceIte, Nat.reduceEqDiff, Nat.reduceAdd, Nat.reduceMul, Nat.reduceLeDiff, Nat.reduceLT, Nat.reduceSub, IntWalk.iteOmega, IntWalk.toNatUp, reduceCtorEq, false_and, and_false, false_or, or_false, true_or, or_true, not_true_eq_false, not_false_eq_true, Bool.not_true, Bool.not_false, Bool.and_true, Bool.true_and, Bool.and_false, Bool.false_and, Bool.not_eq_true, beq_self_eq_true, Nat.add_zero, Int.reduceLE, Int.reduceLT, Int.reduceToNat, Int.reduceNeg, r0, c0, c1', c2', k0, k1]
  refine ⟨?_, ?_, ?_⟩
  · have o0 : OBs g.size 5 (g.push (.cells (([2] : List Nat).map bv).toArray 5)) (.slice (some ⟨g.size, 0, none⟩) 1 1) [2] := OBs.made (by decide) (Nat.le_refl _)
    have B0 : Bel g.size g ((g.push (.cells (([2] : List Nat).map bv).toArray 5)).push (.cells (([sl, r, m] : List Nat).map nv).toArray 3)) := (Bel.push (Nat.le_refl _) _).addP (by simp) _
    have o00 := o0.push (.cells (([sl, r, m] : List Nat).map nv).toArray 3)
    have si : NT ((g.push (.cells (([2] : List Nat).map bv).toArray 5)).push (.cells (([sl, r, m] : List Nat).map nv).toArray 3)) (.slice (some ⟨(g.push (.cells (([2] : List Nat).map bv).toArray 5)).size, 0, none⟩) 3 3) [sl, r, m] := ints_made _ _
    have e1 : (g.push (.cells (([2] : List Nat).map bv).toArray 5)).size = g.size + 1 := by simp
    rw [e1] at si
    refine (sfour_ok T _ _ [sl, r, m] si (by simp) (by intro x hx; simp only [List.mem_cons, List.not_mem_nil, or_false] at hx; omega)).use ?_
    rintro w5 h5 ⟨o5, b5⟩
    have BB := B0.trans (b5.mono B0.size)
    have o1 := o00.bel b5 (Nat.le_refl _)
    have s4 := o5.bs
    simp (config := {maxSteps := 2000000, implicitDefEqProofs := false}) only [go_sem, ↓reduceIte, Nat.reduceEqDiff, Nat.reduceAdd, Nat.reduceMul, Nat.reduceLeDiff, Nat.reduceLT, Nat.reduceSub, IntWalk.iteOmega, IntWalk.toNatUp, reduceCtorEq, false_and, and_false, false_or, or_false, true_or, or_true, not_true_eq_false, not_false_eq_true, Bool.not_true, Bool.not_false, Bool.and_true, Bool.true_and, Bool.and_false, Bool.false_and, Bool.not_eq_true, beq_self_eq_true, Nat.add_zero, Int.reduceLE, Int.reduceLT, Int.reduceToNat, Int.reduceNeg, BB]
    refine append_bytes (E := 5) (B := g.size) tsl29 Tryd.underlying29 tn5 tz5 tb5 o1 BB.size s4 (by rw [cmdBytes_length]; simp) ?_
    intro w6 h6 o6 b6 _
    have B6 : Bel g.size g h6 := BB.trans b6
    have o6' : OBs g.size 5 h6 w6 (2 :: cmdBytes [sl, r, m]) := o6
    have l6 : (2 :: cmdBytes [sl, r, m]).length = 13 := by simp only [List.length_cons, cmdBytes_length, List.length_nil]
    simp (config := {maxSteps := 2000000, implicitDefEqProofs := false}) only [go_sem, ↓reduceIte, Nat.reduceEqDiff, Nat.reduceAdd, Nat.reduceMul, Nat.reduceLeDiff, Nat.reduceLT, Nat.reduceSub, IntWalk.iteOmega, IntWalk.toNatUp, reduceCtorEq, false_and, and_false, false_or, or_false, true_or, or_true, not_true_eq_false, not_false_eq_true, Bool.not_true, Bool.not_false, Bool.and_true, Bool.true_and, Bool.and_false, Bool.false_and, Bool.not_eq_true, beq_self_eq_true, Nat.add_zero, Int.reduceLE, Int.reduceLT, Int.reduceToNat, Int.reduceNeg, B6]
    refine append_bytes (E := 5) (B := g.size) tsl29 Tryd.underlying29 tn5 tz5 tb5 o6' B6.size (sC.bel B6) (by omega) ?_
    intro w7 h7 o7 b7 _
    have B7 : Bel g.size g h7 := B6.trans b7
    have Bh7 := Bg.trans (B7.mono (by omega))
    have o7' : OBs g.size 5 h7 w7 (2 :: (cmdBytes [sl, r, m] ++ CB)) := o7
    have el : (2 :: (cmdBytes [sl, r, m] ++ CB)).length = 33 := by rw [List.length_cons, List.length_append, lC, cmdBytes_length]; rfl
    simp (config := {maxSteps := 2000000, implicitDefEqProofs := false}) only [go_sem, ↓reduceIte, Nat.reduceEqDiff, Nat.reduceAdd, Nat.reduceMul, Nat.reduceLeDiff, Nat.reduceLT, Nat.reduceSub, IntWalk.iteOmega, IntWalk.toNatUp, reduceCtorEq, false_and, and_false, false_or, or_false, true_or, or_true, not_true_eq_false, not_false_eq_true, Bool.not_true, Bool.not_false, Bool.and_true, Bool.true_and, Bool.and_false, Bool.false_and, Bool.not_eq_true, beq_self_eq_true, Nat.add_zero, Int.reduceLE, Int.reduceLT, Int.reduceToNat, Int.reduceNeg, B7]
    refine (write_ok T h7 _ w7 n l (2 :: (cmdBytes [sl, r, m] ++ CB)) (s.bel Bh7) hl o7'.bs (by omega) (tk.bels Bh7)).use ?_
    rintro _ h8 ⟨⟨w8, rfl, o8⟩, b8⟩
    rw [el] at o8 ⊢
    have B8 : Bel g.size g h8 := B7.trans (b8.mono B7.size)
    have Bh8 := Bh7.trans (b8.mono Bh7.size)
    have x8 := B8.get (by omega) x4g
    have y8 := wr_get x8 0
    have hlt8 : h.size + 2 < h8.size := lt_of_get x8
    generalize frmS (2 :: (cmdBytes [sl, r, m] ++ CB)) = FR at *
    obtain ⟨E, hE⟩ : ∃ E, E = wrtErr l n 33 := ⟨_, rfl⟩
    rw [← hE] at o8 ⊢
    obtain ⟨z, hz⟩ : ∃ z : Int, z = if E = 0 then n else 0 := ⟨_, rfl⟩
    rw [← hz]
    obtain ⟨pz, cz, rfl, _⟩ := o8.open
    simp (config := {maxSteps := 2000000, implicitDefEqProofs := false}) only [go_sem, ↓reduceIte, Nat.reduceEqDiff, Nat.reduceAdd, Nat.reduceMul, Nat.reduceLeDiff, Nat.reduceLT, Nat.reduceSub, IntWalk.iteOmega, IntWalk.toNatUp, reduceCtorEq, false_and, and_false, false_or, or_false, true_or, or_true, not_true_eq_false, not_false_eq_true, Bool.not_true, Bool.not_false, Bool.and_true, Bool.true_and, Bool.and_false, Bool.false_and, Bool.not_eq_true, beq_self_eq_true, Nat.add_zero, Int.reduceLE, Int.reduceLT, Int.reduceToNat, Int.reduceNeg, B8, y8, hlt8]
    refine ⟨⟨_, rfl, ?_⟩, Bh8.addSet (by omega) _⟩
    exact (o8.setLow (by have := B7.size; omega) _).mono (by have := B7.size; omega)
  · have B0a : Bel g.size g (g.push (.cells (([sl, r, m] : List Nat).map nv).toArray 3)) := Bel.push (Nat.le_refl _) _
    have o0 : OBs g.size 5 ((g.push (.cells (([sl, r, m] : List Nat).map nv).toArray 3)).push (.cells (([2] : List Nat).map bv).toArray 5)) (.slice (some ⟨(g.push (.cells (([sl, r, m] : List Nat).map nv).toArray 3)).size, 0, none⟩) 1 1) [2] := (OBs.made (by decide) (Nat.le_refl _)).mono (by simp)
    have B0 : Bel g.size g ((g.push (.cells (([sl, r, m] : List Nat).map nv).toArray 3)).push (.cells (([2] : List Nat).map bv).toArray 5)) := B0a.addP (by simp) _
    have si0 : NT (g.push (.cells (([sl, r, m] : List Nat).map nv).toArray 3)) (.slice (some ⟨g.size, 0, none⟩) 3 3) [sl, r, m] := ints_made _ _
    have si := si0.bel (Bel.push (Nat.le_refl _) (.cells (([2] : List Nat).map bv).toArray 5))
    have e1 : (g.push (.cells (([sl, r, m] : List Nat).map nv).toArray 3)).size = g.size + 1 := by simp
    rw [e1] at o0
    refine (sfour_ok T _ _ [sl, r, m] si (by simp) (by intro x hx; simp only [List.mem_cons, List.not_mem_nil, or_false] at hx; omega)).use ?_
    rintro w5 h5 ⟨o5, b5⟩
    have BB := B0.trans (b5.mono B0.size)
    have o1 := o0.bel b5 (Nat.le_refl _)
    have s4 := o5.bs
    simp (config := {maxSteps := 2000000, implicitDefEqProofs := false}) only [go_sem, ↓reduceIte, Nat.reduceEqDiff, Nat.reduceAdd, Nat.reduceMul, Nat.reduceLeDiff, Nat.reduceLT, Nat.reduceSub, IntWalk.iteOmega, IntWalk.toNatUp, reduceCtorEq, false_and, and_false, false_or, or_false, true_or, or_true, not_true_eq_false, not_false_eq_true, Bool.not_true, Bool.not_false, Bool.and_true, Bool.true_and, Bool.and_false, Bool.false_and, Bool.not_eq_true, beq_self_eq_true, Nat.add_zero, Int.reduceLE, Int.reduceLT, Int.reduceToNat, Int.reduceNeg, BB]
    refine append_bytes (E := 5) (B := g.size) tsl29 Tryd.underlying29 tn5 tz5 tb5 o1 BB.size s4 (by rw [cmdBytes_length]; simp) ?_
    intro w6 h6 o6 b6 _
    have B6 : Bel g.size g h6 := BB.trans b6
    have o6' : OBs g.size 5 h6 w6 (2 :: cmdBytes [sl, r, m]) := o6
    have l6 : (2 :: cmdBytes [sl, r, m]).length = 13 := by simp only [List.length_cons, cmdBytes_length, List.length_nil]
    simp (config := {maxSteps := 2000000, implicitDefEqProofs := false}) only [go_sem, ↓reduceIte, Nat.reduceEqDiff, Nat.reduceAdd, Nat.reduceMul, Nat.reduceLeDiff, Nat.reduceLT, Nat.reduceSub, IntWalk.iteOmega, IntWalk.toNatUp, reduceCtorEq, false_and, and_false, false_or, or_false, true_or, or_true, not_true_eq_false, not_false_eq_true, Bool.not_true, Bool.not_false, Bool.and_true, Bool.true_and, Bool.and_false, Bool.false_and, Bool.not_eq_true, beq_self_eq_true, Nat.add_zero, Int.reduceLE, Int.reduceLT, Int.reduceToNat, Int.reduceNeg, B6]
    refine append_bytes (E := 5) (B := g.size) tsl29 Tryd.underlying29 tn5 tz5 tb5 o6' B6.size (sC.bel B6) (by omega) ?_
    intro w7 h7 o7 b7 _
    have B7 : Bel g.size g h7 := B6.trans b7
    have Bh7 := Bg.trans (B7.mono (by omega))
    have o7' : OBs g.size 5 h7 w7 (2 :: (cmdBytes [sl, r, m] ++ CB)) := o7
    have el : (2 :: (cmdBytes [sl, r, m] ++ CB)).length = 33 := by rw [List.length_cons, List.length_append, lC, cmdBytes_length]; rfl
    simp (config := {maxSteps := 2000000, implicitDefEqProofs := false}) only [go_sem, ↓reduceIte, Nat.reduceEqDiff, Nat.reduceAdd, Nat.reduceMul, Nat.reduceLeDiff, Nat.reduceLT, Nat.reduceSub, IntWalk.iteOmega, IntWalk.toNatUp, reduceCtorEq, false_and, and_false, false_or, or_false, true_or, or_true, not_true_eq_false, not_false_eq_true, Bool.not_true, Bool.not_false, Bool.and_true, Bool.true_and, Bool.and_false, Bool.false_and, Bool.not_eq_true, beq_self_eq_true, Nat.add_zero, Int.reduceLE, Int.reduceLT, Int.reduceToNat, Int.reduceNeg, B7]
    refine (write_ok T h7 _ w7 n l (2 :: (cmdBytes [sl, r, m] ++ CB)) (s.bel Bh7) hl o7'.bs (by omega) (tk.bels Bh7)).use ?_
    rintro _ h8 ⟨⟨w8, rfl, o8⟩, b8⟩
    rw [el] at o8 ⊢
    have B8 : Bel g.size g h8 := B7.trans (b8.mono B7.size)
    have Bh8 := Bh7.trans (b8.mono Bh7.size)
    have x8 := B8.get (by omega) x4g
    have y8 := wr_get x8 0
    have hlt8 : h.size + 2 < h8.size := lt_of_get x8
    generalize frmS (2 :: (cmdBytes [sl, r, m] ++ CB)) = FR at *
    obtain ⟨E, hE⟩ : ∃ E, E = wrtErr l n 33 := ⟨_, rfl⟩
    rw [← hE] at o8 ⊢
    obtain ⟨z, hz⟩ : ∃ z : Int, z = if E = 0 then n else 0 := ⟨_, rfl⟩
    rw [← hz]
    obtain ⟨pz, cz, rfl, _⟩ := o8.open
    simp (config := {maxSteps := 2000000, implicitDefEqProofs := false}) only [go_sem, ↓reduceIte, Nat.reduceEqDiff, Nat.reduceAdd, Nat.reduceMul, Nat.reduceLeDiff, Nat.reduceLT, Nat.reduceSub, IntWalk.iteOmega, IntWalk.toNatUp, reduceCtorEq, false_and, and_false, false_or, or_false, true_or, or_true, not_true_eq_false, not_false_eq_true, Bool.not_true, Bool.not_false, Bool.and_true, Bool.true_and, Bool.and_false, Bool.false_and, Bool.not_eq_true, beq_self_eq_true, Nat.add_zero, Int.reduceLE, Int.reduceLT, Int.reduceToNat, Int.reduceNeg, B8, y8, hlt8]
    refine ⟨⟨_, rfl, ?_⟩, Bh8.addSet (by omega) _⟩
    exact (o8.setLow (by have := B7.size; omega) _).mono (by have := B7.size; omega)
  · have B0a : Bel g.size g (g.push (.cells (([sl, r, m] : List Nat).map nv).toArray 3)) := Bel.push (Nat.le_refl _) _
    have si : NT (g.push (.cells (([sl, r, m] : List Nat).map nv).toArray 3)) (.slice (some ⟨g.size, 0, none⟩) 3 3) [sl, r, m] := ints_made _ _
    refine (sfour_ok T _ _ [sl, r, m] si (by simp) (by intro x hx; simp only [List.mem_cons, List.not_mem_nil, or_false] at hx; omega)).use ?_
    rintro w5 h5 ⟨o5, b5⟩
    have BB5 := B0a.trans (b5.mono B0a.size)
    have BB : Bel g.size g (h5.push (.cells (([2] : List Nat).map bv).toArray 5)) := BB5.addP BB5.size _
    have o1 : OBs g.size 5 (h5.push (.cells (([2] : List Nat).map bv).toArray 5)) (.slice (some ⟨h5.size, 0, none⟩) 1 1) [2] := (OBs.made (by decide) (Nat.le_refl _)).mono BB5.size
    have s4 := o5.bs.bel (Bel.push (Nat.le_refl h5.size) (.cells (([2] : List Nat).map bv).toArray 5))
    simp (config := {maxSteps := 2000000, implicitDefEqProofs := false}) only [go_sem, ↓reduceIte, Nat.reduceEqDiff, Nat.reduceAdd, Nat.reduceMul, Nat.reduceLeDiff, Nat.reduceLT, Nat.reduceSub, IntWalk.iteOmega, IntWalk.toNatUp, reduceCtorEq, false_and, and_false, false_or, or_false, true_or, or_true, not_true_eq_false, not_false_eq_true, Bool.not_true, Bool.not_false, Bool.and_true, Bool.true_and, Bool.and_false, Bool.false_and, Bool.not_eq_true, beq_self_eq_true, Nat.add_zero, Int.reduceLE, Int.reduceLT, Int.reduceToNat, Int.reduceNeg, BB5, BB]
    refine append_bytes (E := 5) (B := g.size) tsl29 Tryd.underlying29 tn5 tz5 tb5 o1 BB.size s4 (by rw [cmdBytes_length]; simp) ?_
    intro w6 h6 o6 b6 _
    have B6 : Bel g.size g h6 := BB.trans b6
    have o6' : OBs g.size 5 h6 w6 (2 :: cmdBytes [sl, r, m]) := o6
    have l6 : (2 :: cmdBytes [sl, r, m]).length = 13 := by simp only [List.length_cons, cmdBytes_length, List.length_nil]
    simp (config := {maxSteps := 2000000, implicitDefEqProofs := false}) only [go_sem, ↓reduceIte, Nat.reduceEqDiff, Nat.reduceAdd, Nat.reduceMul, Nat.reduceLeDiff, Nat.reduceLT, Nat.reduceSub, IntWalk.iteOmega, IntWalk.toNatUp, reduceCtorEq, false_and, and_false, false_or, or_false, true_or, or_true, not_true_eq_false, not_false_eq_true, Bool.not_true, Bool.not_false, Bool.and_true, Bool.true_and, Bool.and_false, Bool.false_and, Bool.not_eq_true, beq_self_eq_true, Nat.add_zero, Int.reduceLE, Int.reduceLT, Int.reduceToNat, Int.reduceNeg, B6]
    refine append_bytes (E := 5) (B := g.size) tsl29 Tryd.underlying29 tn5 tz5 tb5 o6' B6.size (sC.bel B6) (by omega) ?_
    intro w7 h7 o7 b7 _
    have B7 : Bel g.size g h7 := B6.trans b7
    have Bh7 := Bg.trans (B7.mono (by omega))
    have o7' : OBs g.size 5 h7 w7 (2 :: (cmdBytes [sl, r, m] ++ CB)) := o7
    have el : (2 :: (cmdBytes [sl, r, m] ++ CB)).length = 33 := by rw [List.length_cons, List.length_append, lC, cmdBytes_length]; rfl
    simp (config := {maxSteps := 2000000, implicitDefEqProofs := false}) only [go_sem, ↓reduceIte, Nat.reduceEqDiff, Nat.reduceAdd, Nat.reduceMul, Nat.reduceLeDiff, Nat.reduceLT, Nat.reduceSub, IntWalk.iteOmega, IntWalk.toNatUp, reduceCtorEq, false_and, and_false, false_or, or_false, true_or, or_true, not_true_eq_false, not_false_eq_true, Bool.not_true, Bool.not_false, Bool.and_true, Bool.true_and, Bool.and_false, Bool.false_and, Bool.not_eq_true, beq_self_eq_true, Nat.add_zero, Int.reduceLE, Int.reduceLT, Int.reduceToNat, Int.reduceNeg, B7]
    refine (write_ok T h7 _ w7 n l (2 :: (cmdBytes [sl, r, m] ++ CB)) (s.bel Bh7) hl o7'.bs (by omega) (tk.bels Bh7)).use ?_
    rintro _ h8 ⟨⟨w8, rfl, o8⟩, b8⟩
    rw [el] at o8 ⊢
    have B8 : Bel g.size g h8 := B7.trans (b8.mono B7.size)
    have Bh8 := Bh7.trans (b8.mono Bh7.size)
    have x8 := B8.get (by omega) x4g
    have y8 := wr_get x8 0
    have hlt8 : h.size + 2 < h8.size := lt_of_get x8
    generalize frmS (2 :: (cmdBytes [sl, r, m] ++ CB)) = FR at *
    obtain ⟨E, hE⟩ : ∃ E, E = wrtErr l n 33 := ⟨_, rfl⟩
    rw [← hE] at o8 ⊢
    obtain ⟨z, hz⟩ : ∃ z : Int, z = if E = 0 then n else 0 := ⟨_, rfl⟩
    rw [← hz]
    obtain ⟨pz, cz, rfl, _⟩ := o8.open
    simp (config := {maxSteps := 2000000, implicitDefEqProofs := false}) only [go_sem, ↓reduceIte, Nat.reduceEqDiff, Nat.reduceAdd, Nat.reduceMul, Nat.reduceLeDiff, Nat.reduceLT, Nat.reduceSub, IntWalk.iteOmega, IntWalk.toNatUp, reduceCtorEq, false_and, and_false, false_or, or_false, true_or, or_true, not_true_eq_false, not_false_eq_true, Bool.not_true, Bool.not_false, Bool.and_true, Bool.true_and, Bool.and_false, Bool.false_and, Bool.not_eq_true, beq_self_eq_true, Nat.add_zero, Int.reduceLE, Int.reduceLT, Int.reduceToNat, Int.reduceNeg, B8, y8, hlt8]
    refine ⟨⟨_, rfl, ?_⟩, Bh8.addSet (by omega) _⟩
    exact (o8.setLow (by have := B7.size; omega) _).mono (by have := B7.size; omega)
theorem voteBody_ok (T : World) (h : Hp) (sl r m k c s nm v : Nat) (hs : sl ≤ 1073741824) (hr : r ≤ 65536) (hm : m ≤ 4) (mc : cmdErr k c s nm v = 0) :
    CallsH Tryd.prog T 105 #[.agg (voteC ⟨sl, ⟨r, m⟩, k, c, s, nm, v⟩).toArray] h fun v' h' => OBs h.size 5 h' v' (2 :: (cmdBytes [sl, r, m] ++ cmdBytes [k, c, s, nm, v])) ∧ Bel h.size h h' := by
  refine CallsH.of_code' (args := [_]) Tryd.func105 rfl rfl rfl rfl ?_
  unfold voteC
  simp (config := {maxSteps := 2000000, implicitDefEqProofs := false}) only [go_sem, ↓reduceIte, Nat.reduceEqDiff, Nat.reduceAdd, Nat.reduceMul, Nat.reduceLeDiff, Nat.reduceLT, Nat.reduceSub, IntWalk.iteOmega, IntWalk.toNatUp, reduceCtorEq, false_and, and_false, false_or, or_false, true_or, or_true, not_true_eq_false, not_false_eq_true, Bool.not_true, Bool.not_false, Bool.and_true, Bool.true_and, Bool.and_false, Bool.false_and, Bool.not_eq_true, beq_self_eq_true, Nat.add_zero, Int.reduceLE, Int.reduceLT, Int.reduceToNat, Int.reduceNeg]
  obtain ⟨h1, hh1⟩ : ∃ h1 : Hp, h1 = (h.push (.cells (voteC ⟨sl, ⟨r, m⟩, k, c, s, nm, v⟩).toArray 80)).push (.cells (([2] : List Nat).map bv).toArray 5) := ⟨_, rfl⟩
  have b1 : Bel h.size h h1 := by rw [hh1]; exact ((Bel.refl _ _).add _).add _
  have s1 : h1.size = h.size + 1 + 1 := by rw [hh1]; simp
  have t1 : h1[h.size]? = some (.cells (voteC ⟨sl, ⟨r, m⟩, k, c, s, nm, v⟩).toArray 80) := by
    rw [hh1, Array.getElem?_push, if_neg (by simp), get_push_last]
  have so : Bs h1 (.slice (some ⟨h.size + 1, 0, none⟩) 1 1) [2] := by
    have := Bs.made (h := h.push (.cells (voteC ⟨sl, ⟨r, m⟩, k, c, s, nm, v⟩).toArray 80)) (E := 5) (l := [2]) (by decide) 1
    rw [Array.size_push] at this
    rw [hh1]; exact this
  have e1 : (h.push (.cells #[Value.int .i64 (sl : Nat), .int .i64 (r : Nat), .int .i64 (m : Nat), .int .i64 (k : Nat), .int .i64 (c : Nat), .int .i64 (s : Nat), .int .i64 (nm : Nat), .int .i64 (v : Nat)] 80)).push (.cells #[Value.int .u8 2] 5) = h1 := hh1.symm
  rw [e1]
  clear e1 hh1
  refine (headOf_ok T h1 sl hs).use ?_
  rintro w2 h2 ⟨s2, b2⟩
  simp (config := {maxSteps := 2000000, implicitDefEqProofs := false}) only [go_sem, ↓reduceIte, Nat.reduceEqDiff, Nat.reduceAdd, Nat.reduceMul, Nat.reduceLeDiff, Nat.reduceLT, Nat.reduceSub, IntWalk.iteOmega, IntWalk.toNatUp, reduceCtorEq, false_and, and_false, false_or, or_false, true_or, or_true, not_true_eq_false, not_false_eq_true, Bool.not_true, Bool.not_false, Bool.and_true, Bool.true_and, Bool.and_false, Bool.false_and, Bool.not_eq_true, beq_self_eq_true, Nat.add_zero, Int.reduceLE, Int.reduceLT, Int.reduceToNat, Int.reduceNeg]
  refine (joined_ok T h2 _ w2 [2] (high4 sl) (so.bel b2) s2 (by simp [high4])).use ?_
  rintro w3 h3 ⟨o3, b3⟩
  have z1 := b2.size
  have z2 := b3.size
  have t3 := b3.get (by omega) (b2.get (by omega) t1)
  have r3 : V.hc h3 ⟨h.size, 1, none⟩ = some (.int .i64 (r : Nat)) := by rw [hc_last t3]; rfl
  simp (config := {maxSteps := 2000000, implicitDefEqProofs := false}) only [go_sem, ↓reduceIte, Nat.reduceEqDiff, Nat.reduceAdd, Nat.reduceMul, Nat.reduceLeDiff, Nat.reduceLT, Nat.reduceSub, IntWalk.iteOmega, IntWalk.toNatUp, reduceCtorEq, false_and, and_false, false_or, or_false, true_or, or_true, not_true_eq_false, not_false_eq_true, Bool.not_true, Bool.not_false, Bool.and_true, Bool.true_and, Bool.and_false, Bool.false_and, Bool.not_eq_true, beq_self_eq_true, Nat.add_zero, Int.reduceLE, Int.reduceLT, Int.reduceToNat, Int.reduceNeg, r3]
  refine (headOf_ok T h3 r (by omega)).use ?_
  rintro w4 h4 ⟨s4, b4⟩
  have o34 := o3.bs.bel b4
  simp (config := {maxSteps := 2000000, implicitDefEqProofs := false}) only [go_sem, ↓reduceIte, Nat.reduceEqDiff, Nat.reduceAdd, Nat.reduceMul, Nat.reduceLeDiff, Nat.reduceLT, Nat.reduceSub, IntWalk.iteOmega, IntWalk.toNatUp, reduceCtorEq, false_and, and_false, false_or, or_false, true_or, or_true, not_true_eq_false, not_false_eq_true, Bool.not_true, Bool.not_false, Bool.and_true, Bool.true_and, Bool.and_false, Bool.false_and, Bool.not_eq_true, beq_self_eq_true, Nat.add_zero, Int.reduceLE, Int.reduceLT, Int.reduceToNat, Int.reduceNeg]
  refine (joined_ok T h4 w3 w4 _ (high4 r) o34 s4 (by simp [high4])).use ?_
  rintro w5 h5 ⟨o5, b5⟩
  have z3 := b4.size
  have z4 := b5.size
  have t5 := b5.get (by omega) (b4.get (by omega) t3)
  have r5 : V.hc h5 ⟨h.size, 2, none⟩ = some (.int .i64 (m : Nat)) := by rw [hc_last t5]; rfl
  simp (config := {maxSteps := 2000000, implicitDefEqProofs := false}) only [go_sem, ↓reduceIte, Nat.reduceEqDiff, Nat.reduceAdd, Nat.reduceMul, Nat.reduceLeDiff, Nat.reduceLT, Nat.reduceSub, IntWalk.iteOmega, IntWalk.toNatUp, reduceCtorEq, false_and, and_false, false_or, or_false, true_or, or_true, not_true_eq_false, not_false_eq_true, Bool.not_true, Bool.not_false, Bool.and_true, Bool.true_and, Bool.and_false, Bool.false_and, Bool.not_eq_true, beq_self_eq_true, Nat.add_zero, Int.reduceLE, Int.reduceLT, Int.reduceToNat, Int.reduceNeg, r5]
  refine (headOf_ok T h5 m (by omega)).use ?_
  rintro w6 h6 ⟨s6, b6⟩
  have o56 := o5.bs.bel b6
  simp (config := {maxSteps := 2000000, implicitDefEqProofs := false}) only [go_sem, ↓reduceIte, Nat.reduceEqDiff, Nat.reduceAdd, Nat.reduceMul, Nat.reduceLeDiff, Nat.reduceLT, Nat.reduceSub, IntWalk.iteOmega, IntWalk.toNatUp, reduceCtorEq, false_and, and_false, false_or, or_false, true_or, or_true, not_true_eq_false, not_false_eq_true, Bool.not_true, Bool.not_false, Bool.and_true, Bool.true_and, Bool.and_false, Bool.false_and, Bool.not_eq_true, beq_self_eq_true, Nat.add_zero, Int.reduceLE, Int.reduceLT, Int.reduceToNat, Int.reduceNeg]
  refine (joined_ok T h6 w5 w6 _ (high4 m) o56 s6 (by simp [high4])).use ?_
  rintro w7 h7 ⟨o7, b7⟩
  have z5 := b6.size
  have z6 := b7.size
  have t7 := b7.get (by omega) (b6.get (by omega) t5)
  have r7 : rd h7 ⟨h.size, 3, none⟩ 5 = some (cmdC k c s nm v) := by rw [rd_part t7 (by simp [voteC])]; rfl
  unfold cmdC at r7
  simp (config := {maxSteps := 2000000, implicitDefEqProofs := false}) only [go_sem, ↓reduceIte, Nat.reduceEqDiff, Nat.reduceAdd, Nat.reduceMul, Nat.reduceLeDiff, Nat.reduceLT, Nat.reduceSub, IntWalk.iteOmega, IntWalk.toNatUp, reduceCtorEq, false_and, and_false, false_or, or_false, true_or, or_true, not_true_eq_false, not_false_eq_true, Bool.not_true, Bool.not_false, Bool.and_true, Bool.true_and, Bool.and_false, Bool.false_and, Bool.not_eq_true, beq_self_eq_true, Nat.add_zero, Int.reduceLE, Int.reduceLT, Int.reduceToNat, Int.reduceNeg, r7]
  refine (commandBytes_ok T h7 k c s nm v).use ?_
  rintro _ h8 ⟨⟨wc, rfl, sC⟩, b8⟩
  rw [mc, if_pos rfl] at sC
  simp only [Int.toNat_natCast] at sC
  rw [mc]
  have lC : (cmdBytes [k, c, s, nm, v]).length = 20 := by rw [cmdBytes_length]; rfl
  generalize cmdBytes [k, c, s, nm, v] = CB at *
  simp (config := {maxSteps := 2000000, implicitDefEqProofs := false}) only [go_sem, ↓reduceIte, Nat.reduceEqDiff, Nat.reduceAdd, Nat.reduceMul, Nat.reduceLeDiff, Nat.reduceLT, Nat.reduceSub, IntWalk.iteOmega, IntWalk.toNatUp, reduceCtorEq, false_and, and_false, false_or, or_false, true_or, or_true, not_true_eq_false, not_false_eq_true, Bool.not_true, Bool.not_false, Bool.and_true, Bool.true_and, Bool.and_false, Bool.false_and, Bool.not_eq_true, beq_self_eq_true, Nat.add_zero, Int.reduceLE, Int.reduceLT, Int.reduceToNat, Int.reduceNeg]
  refine (joined_ok T h8 w7 wc _ CB (o7.bs.bel b8) sC (by simp [high4]; omega)).use ?_
  rintro w9 h9 ⟨o9, b9⟩
  have z7 := b8.size
  have B9 : Bel h.size h h9 := (b1.trans (b2.mono (by omega))).trans ((b3.mono (by omega)).trans ((b4.mono (by omega)).trans ((b5.mono (by omega)).trans ((b6.mono (by omega)).trans ((b7.mono (by omega)).trans ((b8.mono (by omega)).trans (b9.mono (by omega))))))))
  simp (config := {maxSteps := 2000000, implicitDefEqProofs := false}) only [go_sem, ↓reduceIte, Nat.reduceEqDiff, Nat.reduceAdd, Nat.reduceMul, Nat.reduceLeDiff, Nat.reduceLT, Nat.reduceSub, IntWalk.iteOmega, IntWalk.toNatUp, reduceCtorEq, false_and, and_false, false_or, or_false, true_or, or_true, not_true_eq_false, not_false_eq_true, Bool.not_true, Bool.not_false, Bool.and_true, Bool.true_and, Bool.and_false, Bool.false_and, Bool.not_eq_true, beq_self_eq_true, Nat.add_zero, Int.reduceLE, Int.reduceLT, Int.reduceToNat, Int.reduceNeg, B9]
  have el : (([2] ++ high4 sl) ++ high4 r) ++ high4 m = 2 :: cmdBytes [sl, r, m] := rfl
  rw [el] at o9
  have o9' : OBs h8.size 5 h9 w9 (2 :: (cmdBytes [sl, r, m] ++ CB)) := o9
  exact o9'.mono (by omega)
theorem voteOn_ok (T : World) (h : Hp) (v : Value) (n : Int) (l : List Nat) (x : Vt) (s : Bs h v l) :
    CallsH Tryd.prog T 55 #[.agg [v, .int .i64 n].toArray, .agg (voteC x).toArray] h fun v' h' => WrtRes h.size h' v' l n (votErr l n x) (frmS (votB x)) ∧ Bel h.size h h' := by
  obtain ⟨p, c, rfl, _⟩ := s.open
  refine CallsH.of_code' (args := [_, _]) Tryd.func55 rfl rfl rfl rfl ?_
  unfold WrtRes voteC
  simp (config := {maxSteps := 2000000, implicitDefEqProofs := false}) only [go_sem, ↓reduceIte, Nat.reduceEqDiff, Nat.reduceAdd, Nat.reduceMul, Nat.reduceLeDiff, Nat.reduceLT, Nat.reduceSub, IntWalk.iteOmega, IntWalk.toNatUp, reduceCtorEq, false_and, and_false, false_or, or_false, true_or, or_true, not_true_eq_false, not_false_eq_true, Bool.not_true, Bool.not_false, Bool.and_true, Bool.true_and, Bool.and_false, Bool.false_and, Bool.not_eq_true, beq_self_eq_true, Nat.add_zero, Int.reduceLE, Int.reduceLT, Int.reduceToNat, Int.reduceNeg]
  refine (tapeMay_ok T _ p l.length c n).use ?_
  rintro _ _ ⟨rfl, rfl⟩
  obtain ⟨h1, hh1⟩ : ∃ h1 : Hp, h1 = (((h.push (.cells [.slice p l.length c, .int .i64 n].toArray 65)).push (.cells (voteC x).toArray 80)).push (.cells [.slice none 0 0, .int .i64 0].toArray 65)).push (.cells [.slice p l.length c, .int .i64 n].toArray 65) := ⟨_, rfl⟩
  have b1 : Bel h.size h h1 := by rw [hh1]; exact ((((Bel.refl _ _).add _).add _).add _).add _
  have s1 : h1.size = h.size + 4 := by rw [hh1]; simp
  have t0 : h1[h.size]? = some (.cells [.slice p l.length c, .int .i64 n].toArray 65) := by
    rw [hh1, Array.getElem?_push, if_neg (by simp; omega), Array.getElem?_push, if_neg (by simp; omega), Array.getElem?_push, if_neg (by simp), get_push_last]
  have t1 : h1[h.size + 1]? = some (.cells (voteC x).toArray 80) := by
    rw [hh1, Array.getElem?_push, if_neg (by simp), Array.getElem?_push, if_neg (by simp), Array.getElem?_push, if_pos (by simp)]
  have x1 : h1[h.size + 2]? = some (.cells [.slice none 0 0, .int .i64 0].toArray 65) := by
    rw [hh1, Array.getElem?_push, if_neg (by simp), Array.getElem?_push, if_pos (by simp)]
  have e1 : (((h.push (.cells #[Value.slice p l.length c, .int .i64 n] 65)).push (.cells #[Value.int .i64 x.slot, .int .i64 x.b.r, .int .i64 x.b.n, .int .i64 x.k, .int .i64 x.c, .int .i64 x.s, .int .i64 x.nm, .int .i64 x.v] 80)).push (.cells #[Value.slice none 0 0, .int .i64 0] 65)).push (.cells #[Value.slice p l.length c, .int .i64 n] 65) = h1 := hh1.symm
  rw [e1]
  clear e1 hh1
  by_cases ok : tapeOk l n
  case neg =>
    have ee : votErr l n x = 5 := by unfold votErr; rw [if_pos ok]
    have hd : decide (l.length ≤ 100000 ∧ 0 ≤ n ∧ n ≤ l.length) = false := decide_eq_false ok
    rw [ee, hd]
    have y2 := wr_get x1 0
    have hlt : h.size + 2 < h1.size := by omega
    simp (config := {maxSteps := 2000000, implicitDefEqProofs := false}) only [go_sem, ↓reduceIte, Nat.reduceEqDiff, Nat.reduceAdd, Nat.reduceMul, Nat.reduceLeDiff, Nat.reduceLT, Nat.reduceSub, IntWalk.iteOmega, IntWalk.toNatUp, reduceCtorEq, false_and, and_false, false_or, or_false, true_or, or_true, not_true_eq_false, not_false_eq_true, Bool.not_true, Bool.not_false, Bool.and_true, Bool.true_and, Bool.and_false, Bool.false_and, Bool.not_eq_true, beq_self_eq_true, Nat.add_zero, Int.reduceLE, Int.reduceLT, Int.reduceToNat, Int.reduceNeg, y2, hlt]
    exact ⟨⟨_, rfl, OBs.nil _ _ _⟩, b1.addSet (by omega) _⟩
  have hd : decide (l.length ≤ 100000 ∧ 0 ≤ n ∧ n ≤ l.length) = true := decide_eq_true ok
  have r1 : rd h1 ⟨h.size + 1, 0, none⟩ 8 = some (voteC x) := rd_last t1 rfl
  unfold voteC at r1
  rw [hd]
  simp (config := {maxSteps := 2000000, implicitDefEqProofs := false}) only [go_sem, ↓reduceIte, Nat.reduceEqDiff, Nat.reduceAdd, Nat.reduceMul, Nat.reduceLeDiff, Nat.reduceLT, Nat.reduceSub, IntWalk.iteOmega, IntWalk.toNatUp, reduceCtorEq, false_and, and_false, false_or, or_false, true_or, or_true, not_true_eq_false, not_false_eq_true, Bool.not_true, Bool.not_false, Bool.and_true, Bool.true_and, Bool.and_false, Bool.false_and, Bool.not_eq_true, beq_self_eq_true, Nat.add_zero, Int.reduceLE, Int.reduceLT, Int.reduceToNat, Int.reduceNeg, r1]
  refine (voteMay_ok T h1 x).use ?_
  rintro _ h2 ⟨rfl, b2⟩
  have s2 := b2.size
  have B2 := b1.trans (b2.mono (by omega))
  have x2 := b2.get (by omega) x1
  have t02 := b2.get (by omega) t0
  have t12 := b2.get (by omega) t1
  by_cases may : voteMay x
  case neg =>
    have ee : votErr l n x = 2 := by unfold votErr; rw [if_neg (fun hn => hn ok), if_pos may]
    have hd2 : decide (voteMay x) = false := decide_eq_false may
    rw [ee, hd2]
    have y2 := wr_get x2 0
    have hlt : h.size + 2 < h2.size := by omega
    simp (config := {maxSteps := 2000000, implicitDefEqProofs := false}) only [go_sem, ↓reduceIte, Nat.reduceEqDiff, Nat.reduceAdd, Nat.reduceMul, Nat.reduceLeDiff, Nat.reduceLT, Nat.reduceSub, IntWalk.iteOmega, IntWalk.toNatUp, reduceCtorEq, false_and, and_false, false_or, or_false, true_or, or_true, not_true_eq_false, not_false_eq_true, Bool.not_true, Bool.not_false, Bool.and_true, Bool.true_and, Bool.and_false, Bool.false_and, Bool.not_eq_true, beq_self_eq_true, Nat.add_zero, Int.reduceLE, Int.reduceLT, Int.reduceToNat, Int.reduceNeg, y2, hlt]
    exact ⟨⟨_, rfl, OBs.nil _ _ _⟩, B2.addSet (by omega) _⟩
  have ee : votErr l n x = wrtErr l n 33 := by unfold votErr; rw [if_neg (fun hn => hn ok), if_neg (fun hn => hn may)]
  have hd2 : decide (voteMay x) = true := decide_eq_true may
  rw [ee, hd2]
  obtain ⟨⟨m1, m2⟩, ⟨⟨m3, m4⟩, m5, m6⟩, mc⟩ := may
  obtain ⟨xs, ⟨br, bn⟩, xk, xc, xss, xn, xv⟩ := x
  simp only at m1 m2 m3 m4 m5 m6 mc
  obtain ⟨k, c2, s3, nm, vv, rfl, rfl, rfl, rfl, rfl, _⟩ := cmdErr_zero mc
  obtain ⟨sl, rfl⟩ : ∃ r : Nat, xs = r := ⟨xs.toNat, by omega⟩
  obtain ⟨r, rfl⟩ : ∃ r : Nat, br = r := ⟨br.toNat, by omega⟩
  obtain ⟨m, rfl⟩ : ∃ m : Nat, bn = m := ⟨bn.toNat, by omega⟩
  unfold votB
  simp only [Int.toNat_natCast]
  have r2 : rd h2 ⟨h.size + 1, 0, none⟩ 8 = some (voteC ⟨sl, ⟨r, m⟩, k, c2, s3, nm, vv⟩) := rd_last t12 rfl
  unfold voteC at r2
  simp (config := {maxSteps := 2000000, implicitDefEqProofs := false}) only [go_sem, ↓reduceIte, Nat.reduceEqDiff, Nat.reduceAdd, Nat.reduceMul, Nat.reduceLeDiff, Nat.reduceLT, Nat.reduceSub, IntWalk.iteOmega, IntWalk.toNatUp, reduceCtorEq, false_and, and_false, false_or, or_false, true_or, or_true, not_true_eq_false, not_false_eq_true, Bool.not_true, Bool.not_false, Bool.and_true, Bool.true_and, Bool.and_false, Bool.false_and, Bool.not_eq_true, beq_self_eq_true, Nat.add_zero, Int.reduceLE, Int.reduceLT, Int.reduceToNat, Int.reduceNeg, r2]
  refine (voteBody_ok T h2 sl r m k c2 s3 nm vv (by omega) (by omega) (by omega) mc).use ?_
  rintro w3 h3 ⟨o3, b3⟩
  have s3' := b3.size
  have Bh3 := B2.trans (b3.mono (by omega))
  have x3 := b3.get (by omega) x2
  have t03 := b3.get (by omega) t02
  have r3 : rd h3 ⟨h.size, 0, none⟩ 2 = some [.slice p l.length c, .int .i64 n] := rd_last t03 rfl
  have el : (2 :: (cmdBytes [sl, r, m] ++ cmdBytes [k, c2, s3, nm, vv])).length = 33 := by rw [List.length_cons, List.length_append, cmdBytes_length, cmdBytes_length]; rfl
  generalize 2 :: (cmdBytes [sl, r, m] ++ cmdBytes [k, c2, s3, nm, vv]) = BD at *
  simp (config := {maxSteps := 2000000, implicitDefEqProofs := false}) only [go_sem, ↓reduceIte, Nat.reduceEqDiff, Nat.reduceAdd, Nat.reduceMul, Nat.reduceLeDiff, Nat.reduceLT, Nat.reduceSub, IntWalk.iteOmega, IntWalk.toNatUp, reduceCtorEq, false_and, and_false, false_or, or_false, true_or, or_true, not_true_eq_false, not_false_eq_true, Bool.not_true, Bool.not_false, Bool.and_true, Bool.true_and, Bool.and_false, Bool.false_and, Bool.not_eq_true, beq_self_eq_true, Nat.add_zero, Int.reduceLE, Int.reduceLT, Int.reduceToNat, Int.reduceNeg, r3]
  refine (recordOn_ok T h3 _ w3 n l BD (s.bel Bh3) ok.1 o3.bs (by omega) ok).use ?_
  rintro _ h4 ⟨⟨w4, rfl, o4⟩, b4⟩
  rw [el] at o4 ⊢
  have s4 := b4.size
  have Bh4 := Bh3.trans (b4.mono (by omega))
  have x4 := b4.get (by omega) x3
  generalize frmS BD = FR at *
  obtain ⟨E, hE⟩ : ∃ E, E = wrtErr l n 33 := ⟨_, rfl⟩
  rw [← hE] at o4 ⊢
  obtain ⟨z, hz⟩ : ∃ z : Int, z = if E = 0 then n else 0 := ⟨_, rfl⟩
  rw [← hz]
  obtain ⟨pz, cz, hwz, _⟩ := o4.open
  generalize (if E = 0 then l ++ FR else []) = LL at *
  subst hwz
  have hne : ¬ h.size + 2 = h4.size := by omega
  have x5 : (h4.push (.cells [.slice pz LL.length cz, .int .i64 z].toArray 65))[h.size + 2]? = some (.cells [.slice none 0 0, .int .i64 0].toArray 65) := by
    rw [get_push_ne (by omega)]; exact x4
  have y4 := wr_get x4 0
  have hlt4 : h.size + 2 < h4.size := lt_of_get x4
  simp (config := {maxSteps := 2000000, implicitDefEqProofs := false}) only [go_sem, ↓reduceIte, Nat.reduceEqDiff, Nat.reduceAdd, Nat.reduceMul, Nat.reduceLeDiff, Nat.reduceLT, Nat.reduceSub, IntWalk.iteOmega, IntWalk.toNatUp, reduceCtorEq, false_and, and_false, false_or, or_false, true_or, or_true, not_true_eq_false, not_false_eq_true, Bool.not_true, Bool.not_false, Bool.and_true, Bool.true_and, Bool.and_false, Bool.false_and, Bool.not_eq_true, beq_self_eq_true, Nat.add_zero, Int.reduceLE, Int.reduceLT, Int.reduceToNat, Int.reduceNeg, y4, hne, hlt4]
  refine ⟨⟨_, rfl, ?_⟩, (Bh4.addSet (by omega) _).addP (by simp; omega) _⟩
  exact ((o4.setLow (b := h.size + 1 + 1) (by omega) _).push _).mono (by omega)
end Go.Proofs.YtnpacofabdgcdaaDoor
