/- A promise, written on a tape: what the program and the document compute; no condition but those in the statements. -/
import Derived.Test.YtnpacofabdgcdaaDoorStw
import Derived.Test.YtnpacofabdgcdaaDoorPaxp
import Derived.Test.YtnpacofabdgcdaaDoorShar
namespace Go.Proofs.YtnpacofabdgcdaaDoor
open Go Go.V
set_option linter.unusedSimpArgs false
set_option linter.unusedVariables false
set_option maxRecDepth 100000
theorem ints_made (g : Hp) (ns : List Nat) : NT (g.push (.cells (ns.map nv).toArray 3)) (.slice (some ⟨g.size, 0, none⟩) ns.length ns.length) ns := by
  constructor
  rw [encs_one nv]
  exact Sl.made (by simp) _
theorem sfour_ok (T : World) (h : Hp) (u : Value) (ns : List Nat) (s : NT h u ns) (hl : ns.length ≤ 100) (hb : ∀ x ∈ ns, x ≤ 1073741824) :
    CallsH Tryd.prog T 91 #[u] h fun v' h' => OBs h.size 5 h' v' (cmdBytes ns) ∧ Bel h.size h h' := by
  obtain ⟨p, c, rfl, hcs⟩ := nv_open s
  refine CallsH.of_code' (args := [_]) Tryd.func91 rfl rfl rfl rfl ?_
  simp (config := {maxSteps := 2000000, implicitDefEqProofs := false}) only [go_sem, ↓reduceIte, Nat.reduceEqDiff, Nat.reduceAdd, Nat.reduceMul, Nat.reduceLeDiff, Nat.reduceLT, Nat.reduceSub, IntWalk.iteOmega, IntWalk.toNatUp, reduceCtorEq, false_and, and_false, false_or, or_false, true_or, or_true, not_true_eq_false, not_false_eq_true, Bool.not_true, Bool.not_false, Bool.and_true, Bool.true_and, Bool.and_false, Bool.false_and, Bool.not_eq_true, beq_self_eq_true, Nat.add_zero, Int.reduceLE, Int.reduceLT, Int.reduceToNat, Int.reduceNeg]
  refine VS.loop' (fun F g => Bel h.size h g ∧ F 6 = .slice p ns.length c ∧ F 7 = .int .i64 ns.length ∧ ∃ i : Nat, i ≤ ns.length ∧ F 8 = .int .i64 i ∧ OBs h.size 5 g (F 3) (cmdBytes (ns.take i)))
    (fun F _ => ns.length - (vi (F 8)).toNat) rfl ⟨Bel.refl _ _, rfl, rfl, 0, by omega, rfl, OBs.nil _ _ _⟩ ?_
  rintro F g ⟨hg, f6, f7, i, hi, f8, ho⟩
  have hgs := hg.size
  by_cases hlt : i < ns.length
  · have hlt' : (i : Int) < ns.length := by omega
    obtain ⟨b, o, rfl, hb0, hcs⟩ := hcs (by intro e; rw [e] at hlt; simp at hlt)
    have n1 : V.hc g ⟨b, o + i, none⟩ = some (.int .i64 (ns.getD i 0 : Nat)) := by rw [hg.hc (by exact hb0)]; exact hcs i hlt
    have et : ns.take (i + 1) = ns.take i ++ [ns.getD i 0] := by
      rw [take_snoc _ i hlt, List.getD_eq_getElem?_getD, List.getElem?_eq_getElem hlt]; rfl
    have hx : ns.getD i 0 ≤ 1073741824 := by
      rw [List.getD_eq_getElem?_getD, List.getElem?_eq_getElem hlt]; exact hb _ (List.getElem_mem hlt)
    generalize ns.getD i 0 = x at *
    obtain ⟨yx, hyx⟩ : ∃ y : Int, y = (x : Int) := ⟨_, rfl⟩
    obtain ⟨z0, hz0⟩ : ∃ y : Int, y = ((x / 16777216 % 256 : Nat) : Int) := ⟨_, rfl⟩
    obtain ⟨z1, hz1⟩ : ∃ y : Int, y = ((x / 65536 % 256 : Nat) : Int) := ⟨_, rfl⟩
    obtain ⟨z2, hz2⟩ : ∃ y : Int, y = ((x / 256 % 256 : Nat) : Int) := ⟨_, rfl⟩
    obtain ⟨z3, hz3⟩ : ∃ y : Int, y = ((x % 256 : Nat) : Int) := ⟨_, rfl⟩
    rw [← hyx] at n1
    have e1 : Unit → shrOp .i64 yx 24 % 256 = z0 := fun _ => by rw [hyx, hz0, show (24 : Int) = ((24 : Nat) : Int) from rfl, shr_i64 x 24 (by decide)]; rfl
    have e2 : Unit → shrOp .i64 yx 16 % 256 = z1 := fun _ => by rw [hyx, hz1, show (16 : Int) = ((16 : Nat) : Int) from rfl, shr_i64 x 16 (by decide)]; rfl
    have e3 : Unit → shrOp .i64 yx 8 % 256 = z2 := fun _ => by rw [hyx, hz2, show (8 : Int) = ((8 : Nat) : Int) from rfl, shr_i64 x 8 (by decide)]; rfl
    have e4 : Unit → yx % 256 = z3 := fun _ => by rw [hyx, hz3]; rfl
    have hcl : (cmdBytes (ns.take i)).length ≤ 400 := by rw [cmdBytes_length, List.length_take]; omega
    clear hyx
    simp (config := {maxSteps := 2000000, implicitDefEqProofs := false}) only [go_sem, ↓reduceIte, Nat.reduceEqDiff, Nat.reduceAdd, Nat.reduceMul, Nat.reduceLeDiff, Nat.reduceLT, Nat.reduceSub, IntWalk.iteOmega, IntWalk.toNatUp, reduceCtorEq, false_and, and_false, false_or, or_false, true_or, or_true, not_true_eq_false, not_false_eq_true, Bool.not_true, Bool.not_false, Bool.and_true, Bool.true_and, Bool.and_false, Bool.false_and, Bool.not_eq_true, beq_self_eq_true, Nat.add_zero, Int.reduceLE, Int.reduceLT, Int.reduceToNat, Int.reduceNeg, f6, f7, f8, hlt', n1, e1 (), e2 (), e3 (), e4 ()]
    subst hz0 hz1 hz2 hz3
    refine append_bytes (E := 5) (B := h.size) tsl29 Tryd.underlying29 tn5 tz5 tb5 (ho.push _) (by simp; omega) (Bs.made (l := high4 x) (high4_byte x) 4) (by simp [high4]; omega) ?_
    intro w' g' ho' hb' _
    simp (config := {maxSteps := 2000000, implicitDefEqProofs := false}) only [go_sem, ↓reduceIte, Nat.reduceEqDiff, Nat.reduceAdd, Nat.reduceMul, Nat.reduceLeDiff, Nat.reduceLT, Nat.reduceSub, IntWalk.iteOmega, IntWalk.toNatUp, reduceCtorEq, false_and, and_false, false_or, or_false, true_or, or_true, not_true_eq_false, not_false_eq_true, Bool.not_true, Bool.not_false, Bool.and_true, Bool.true_and, Bool.and_false, Bool.false_and, Bool.not_eq_true, beq_self_eq_true, Nat.add_zero, Int.reduceLE, Int.reduceLT, Int.reduceToNat, Int.reduceNeg, f6, f7, f8]
    refine ⟨⟨(hg.add _).trans hb', f6, f7, i + 1, hlt, rfl, ?_⟩, ?_⟩
    · rw [et]
      unfold cmdBytes at ho' ⊢
      rw [List.flatMap_append]
      simp only [List.flatMap_cons, List.flatMap_nil, List.append_nil]
      exact ho'
    · simp only [vi, updo_some, ↓reduceIte, f8]; omega
  · have hge : ¬ (i : Int) < ns.length := by omega
    obtain rfl : i = ns.length := by omega
    rw [List.take_length] at ho
    simp (config := {maxSteps := 2000000, implicitDefEqProofs := false}) only [go_sem, ↓reduceIte, Nat.reduceEqDiff, Nat.reduceAdd, Nat.reduceMul, Nat.reduceLeDiff, Nat.reduceLT, Nat.reduceSub, IntWalk.iteOmega, IntWalk.toNatUp, reduceCtorEq, false_and, and_false, false_or, or_false, true_or, or_true, not_true_eq_false, not_false_eq_true, Bool.not_true, Bool.not_false, Bool.and_true, Bool.true_and, Bool.and_false, Bool.false_and, Bool.not_eq_true, beq_self_eq_true, Nat.add_zero, Int.reduceLE, Int.reduceLT, Int.reduceToNat, Int.reduceNeg, f6, f7, f8, hge]
    exact ⟨ho, hg⟩
def proErr (l : List Nat) (n : Int) (b : Bal) : Int := if ¬ tapeOk l n then 5 else if ¬ ballotMay b then 2 else wrtErr l n 9
def proB (b : Bal) : List Nat := 1 :: cmdBytes [b.r.toNat, b.n.toNat]
theorem prErr_none (b : Bal) : prErr ⟨0, 0⟩ [] b = if ballotMay b then 0 else 2 := by
  have e : accErr ⟨0, 0⟩ [] = 0 := rfl
  unfold prErr
  rw [if_neg (by rw [e]; decide)]
  by_cases q : ballotMay b
  · rw [if_neg (fun hn => hn q), if_pos q, if_neg]
    intro hb
    have q1 := q.1.1
    rcases hb with hb | ⟨hb, _⟩ <;> simp at hb <;> omega
  · rw [if_pos q, if_neg q]
theorem sPromise_ok (T : World) (h : Hp) (v : Value) (n : Int) (l : List Nat) (b : Bal) (s : Bs h v l) (hl : l.length ≤ 140737488355328) (tk : Tk h) :
    CallsH Tryd.prog T 47 #[.agg [v, .int .i64 n].toArray, .agg (balC b).toArray] h fun v' h' => WrtRes h.size h' v' l n (proErr l n b) (frmS (proB b)) ∧ Bel h.size h h' := by
  obtain ⟨p, c, rfl, _⟩ := s.open
  refine CallsH.of_code' (args := [_, _]) Tryd.func47 rfl rfl rfl rfl ?_
  unfold WrtRes balC
  simp (config := {maxSteps := 2000000, implicitDefEqProofs := false}) only [go_sem, ↓reduceIte, Nat.reduceEqDiff, Nat.reduceAdd, Nat.reduceMul, Nat.reduceLeDiff, Nat.reduceLT, Nat.reduceSub, IntWalk.iteOmega, IntWalk.toNatUp, reduceCtorEq, false_and, and_false, false_or, or_false, true_or, or_true, not_true_eq_false, not_false_eq_true, Bool.not_true, Bool.not_false, Bool.and_true, Bool.true_and, Bool.and_false, Bool.false_and, Bool.not_eq_true, beq_self_eq_true, Nat.add_zero, Int.reduceLE, Int.reduceLT, Int.reduceToNat, Int.reduceNeg]
  obtain ⟨h0, hh0⟩ : ∃ h0 : Hp, h0 = ((h.push (.cells [.slice p l.length c, .int .i64 n].toArray 65)).push (.cells [.int .i64 b.r, .int .i64 b.n].toArray 67)).push (.cells [.slice none 0 0, .int .i64 0].toArray 65) := ⟨_, rfl⟩
  have b0 : Bel h.size h h0 := by rw [hh0]; exact (((Bel.refl _ _).add _).add _).add _
  have s0 : h0.size = h.size + 3 := by rw [hh0]; simp
  have t0 : h0[h.size]? = some (.cells [.slice p l.length c, .int .i64 n].toArray 65) := by
    rw [hh0, Array.getElem?_push, if_neg (by simp; omega), Array.getElem?_push, if_neg (by simp), get_push_last]
  have t1 : h0[h.size + 1]? = some (.cells [.int .i64 b.r, .int .i64 b.n].toArray 67) := by
    rw [hh0, Array.getElem?_push, if_neg (by simp), Array.getElem?_push, if_pos (by simp)]
  have x0 : h0[h.size + 2]? = some (.cells [.slice none 0 0, .int .i64 0].toArray 65) := by
    rw [hh0, Array.getElem?_push, if_pos (by simp)]
  rw [← hh0]
  clear hh0
  refine (open_ok T h0 _ n l (s.bel b0) hl).use ?_
  rintro _ h1 ⟨b1, o1⟩
  have s1 := b1.size
  have B1 : Bel h.size h h1 := b0.trans (b1.mono (by omega))
  have x1 := b1.get (by omega) x0
  by_cases ok : tapeOk l n
  case neg =>
    have ee : proErr l n b = 5 := by unfold proErr; rw [if_pos ok]
    rw [if_neg (show ¬ (l.length ≤ 100000 ∧ 0 ≤ n ∧ n ≤ l.length) from ok)] at o1
    subst o1
    rw [ee]
    have y2 := wr_get x1 0
    have hlt : h.size + 2 < h1.size := by omega
    have hne : ¬ h.size + 2 = h1.size := by omega
    simp (config := {maxSteps := 2000000, implicitDefEqProofs := false}) only [go_sem, ↓reduceIte, Nat.reduceEqDiff, Nat.reduceAdd, Nat.reduceMul, Nat.reduceLeDiff, Nat.reduceLT, Nat.reduceSub, IntWalk.iteOmega, IntWalk.toNatUp, reduceCtorEq, false_and, and_false, false_or, or_false, true_or, or_true, not_true_eq_false, not_false_eq_true, Bool.not_true, Bool.not_false, Bool.and_true, Bool.true_and, Bool.and_false, Bool.false_and, Bool.not_eq_true, beq_self_eq_true, Nat.add_zero, Int.reduceLE, Int.reduceLT, Int.reduceToNat, Int.reduceNeg, y2, hne, hlt]
    exact ⟨⟨_, rfl, OBs.nil _ _ _⟩, (B1.addSet (by omega) _).addP (by simp; omega) _⟩
  rw [if_pos (show (l.length ≤ 100000 ∧ 0 ≤ n ∧ n ≤ l.length) from ok)] at o1
  obtain ⟨w, rfl, o1⟩ := o1
  obtain ⟨pw, cw, rfl, _⟩ := o1.open
  have bt1 := b1.get (by omega) t1
  have r1 : rd h1 ⟨h.size + 1, 0, none⟩ 2 = some [.int .i64 b.r, .int .i64 b.n] := rd_last bt1 rfl
  have hne1 : ¬ h.size + 1 = h1.size := by omega
  simp (config := {maxSteps := 2000000, implicitDefEqProofs := false}) only [go_sem, ↓reduceIte, Nat.reduceEqDiff, Nat.reduceAdd, Nat.reduceMul, Nat.reduceLeDiff, Nat.reduceLT, Nat.reduceSub, IntWalk.iteOmega, IntWalk.toNatUp, reduceCtorEq, false_and, and_false, false_or, or_false, true_or, or_true, not_true_eq_false, not_false_eq_true, Bool.not_true, Bool.not_false, Bool.and_true, Bool.true_and, Bool.and_false, Bool.false_and, Bool.not_eq_true, beq_self_eq_true, Nat.add_zero, Int.reduceLE, Int.reduceLT, Int.reduceToNat, Int.reduceNeg, r1, hne1]
  have b2 : Bel h1.size h1 (h1.push (.cells [.slice pw l.length cw, .int .i64 n].toArray 65)) := Bel.push (Nat.le_refl _) _
  refine (promise_ok T _ ⟨0, 0⟩ (.slice none 0 0) [] b (Ots.nil 0 80 voteC 8 _).ts (by simp)).use ?_
  rintro _ h3 ⟨⟨w1, w2, rfl, q1, q2⟩, b3⟩
  simp only [ite_self] at q1
  have B3 : Bel h1.size h1 h3 := b2.trans (b3.mono b2.size)
  rw [prErr_none]
  obtain ⟨p1, c1, hw1, _⟩ := q1.open
  have s3 := B3.size
  have x3 := B3.get (by omega) x1
  have Bh3 := B1.trans (B3.mono (by omega))
  by_cases may : ballotMay b
  case neg =>
    have ee : proErr l n b = 2 := by unfold proErr; rw [if_neg (fun hn => hn ok), if_pos may]
    rw [ee, if_neg may]
    obtain ⟨w1', hw1'⟩ : ∃ w, w = w1 := ⟨_, rfl⟩
    subst hw1
    have y2 := wr_get x3 0
    have hlt : h.size + 2 < h3.size := by omega
    have hne : ¬ h.size + 2 = h3.size := by omega
    unfold accC
    simp (config := {maxSteps := 2000000, implicitDefEqProofs := false}) only [go_sem, ↓reduceIte, Nat.reduceEqDiff, Nat.reduceAdd, Nat.reduceMul, Nat.reduceLeDiff, Nat.reduceLT, Nat.reduceSub, IntWalk.iteOmega, IntWalk.toNatUp, reduceCtorEq, false_and, and_false, false_or, or_false, true_or, or_true, not_true_eq_false, not_false_eq_true, Bool.not_true, Bool.not_false, Bool.and_true, Bool.true_and, Bool.and_false, Bool.false_and, Bool.not_eq_true, beq_self_eq_true, Nat.add_zero, Int.reduceLE, Int.reduceLT, Int.reduceToNat, Int.reduceNeg, y2, hne, hlt]
    exact ⟨⟨_, rfl, OBs.nil _ _ _⟩, (Bh3.addSet (by omega) _).addP (by simp; omega) _⟩
  have ee : proErr l n b = wrtErr l n 9 := by unfold proErr; rw [if_neg (fun hn => hn ok), if_neg (fun hn => hn may)]
  rw [ee, if_pos may]
  obtain ⟨⟨m1, m2⟩, m3, m4⟩ := may
  obtain ⟨br, bn⟩ := b
  obtain ⟨r, rfl⟩ : ∃ r : Nat, br = r := ⟨br.toNat, by simp at m1; omega⟩
  obtain ⟨m, rfl⟩ : ∃ m : Nat, bn = m := ⟨bn.toNat, by simp at m3; omega⟩
  simp only at m1 m2 m3 m4
  unfold proB
  simp only [Int.toNat_natCast]
  subst hw1
  unfold accC
  have t3 := B3.get (by omega) (b1.get (by omega) t0)
  have t13 := B3.get (by omega) bt1
  obtain ⟨g, hg⟩ : ∃ g : Hp, g = h3.push (.cells [.int .i64 (r : Nat), .int .i64 (m : Nat), .slice p1 ([] : List Vt).length c1].toArray 85) := ⟨_, rfl⟩
  simp (config := {maxSteps := 2000000, implicitDefEqProofs := false}) only [go_sem, ↓reduceIte, Nat.reduceEqDiff, Nat.reduceAdd, Nat.reduceMul, Nat.reduceLeDiff, Nat.reduceLT, Nat.reduceSub, IntWalk.iteOmega, IntWalk.toNatUp, reduceCtorEq, false_and, and_false, false_or, or_false, true_or, or_true, not_true_eq_false, not_false_eq_true, Bool.not_true, Bool.not_false, Bool.and_true, Bool.true_and, Bool.and_false, Bool.false_and, Bool.not_eq_true, beq_self_eq_true, Nat.add_zero, Int.reduceLE, Int.reduceLT, Int.reduceToNat, Int.reduceNeg]
  have e3 : h3.push (.cells #[Value.int .i64 (r : Nat), .int .i64 (m : Nat), .slice p1 0 c1] 85) = g := hg.symm
  rw [e3]
  have bg : Bel h3.size h3 g := by rw [hg]; exact Bel.push (Nat.le_refl _) _
  have sg : g.size = h3.size + 1 := by rw [hg]; simp
  clear e3 hg
  have Bg : Bel h.size h g := Bh3.trans (bg.mono (by omega))
  have x4g := bg.get (by omega) x3
  have t4 := bg.get (by omega) t3
  have t14 := bg.get (by omega) t13
  have r0 : rd g ⟨h.size, 0, none⟩ 2 = some [.slice p l.length c, .int .i64 n] := rd_last t4 rfl
  have c0 : V.hc g ⟨h.size + 1, 0, none⟩ = some (.int .i64 (r : Nat)) := by rw [hc_last t14]; rfl
  have c1' : V.hc g ⟨h.size + 1, 1, none⟩ = some (.int .i64 (m : Nat)) := by rw [hc_last t14]; rfl
  have k0 : h.size < g.size := by omega
  have k1 : h.size + 1 < g.size := by omega
  refine VS.w (g.size) [12, 13] (.q 0 (.q 2 (.q 3 (.q 4 (.q 5 (.or 1 (.s 6 (.s 7 (.s 8 (.s 9 (.q 10 (.q 11 (.w 12 (.w 13 .nil)))))))) (.s 6 (.or 1 (.s 7 (.s 8 (.s 9 (.q 10 (.q 11 (.w 12 (.w 13 .nil))))))) (.s 7 (.s 1 (.s 8 (.s 9 (.q 10 (.q 11 (.w 12 (.w 13 .nil)))))))))))))))) mixed (by kernel_rfl) ?_
  simp (config := {maxSteps := 2000000, implicitDefEqProofs := false}) only [go_sem, ↓reduceIte, Nat.reduceEqDiff, Nat.reduceAdd, Nat.reduceMul, Nat.reduceLeDiff, Nat.reduceLT, Nat.reduceSub, IntWalk.iteOmega, IntWalk.toNatUp, reduceCtorEq, false_and, and_false, false_or, or_false, true_or, or_true, not_true_eq_false, not_false_eq_true, Bool.not_true, Bool.not_false, Bool.and_true, Bool.true_and, Bool.and_false, Bool.false_and, Bool.not_eq_true, beq_self_eq_true, Nat.add_zero, Int.reduceLE, Int.reduceLT, Int.reduceToNat, Int.reduceNeg, r0, c0, c1', k0, k1]
  refine ⟨?_, ?_, ?_⟩
  · have o0 : OBs g.size 5 (g.push (.cells (([1] : List Nat).map bv).toArray 5)) (.slice (some ⟨g.size, 0, none⟩) 1 1) [1] := OBs.made (by decide) (Nat.le_refl _)
    have B0 : Bel g.size g ((g.push (.cells (([1] : List Nat).map bv).toArray 5)).push (.cells (([r, m] : List Nat).map nv).toArray 3)) := (Bel.push (Nat.le_refl _) _).addP (by simp) _
    have o00 := o0.push (.cells (([r, m] : List Nat).map nv).toArray 3)
    have si : NT ((g.push (.cells (([1] : List Nat).map bv).toArray 5)).push (.cells (([r, m] : List Nat).map nv).toArray 3)) (.slice (some ⟨(g.push (.cells (([1] : List Nat).map bv).toArray 5)).size, 0, none⟩) 2 2) [r, m] := ints_made _ _
    have e1 : (g.push (.cells (([1] : List Nat).map bv).toArray 5)).size = g.size + 1 := by simp
    rw [e1] at si
    refine (sfour_ok T _ _ [r, m] si (by simp) (by intro x hx; simp only [List.mem_cons, List.not_mem_nil, or_false] at hx; omega)).use ?_
    rintro w5 h5 ⟨o5, b5⟩
    have BB := B0.trans (b5.mono B0.size)
    have o1 := o00.bel b5 (Nat.le_refl _)
    have s4 := o5.bs
    simp (config := {maxSteps := 2000000, implicitDefEqProofs := false}) only [go_sem, ↓reduceIte, Nat.reduceEqDiff, Nat.reduceAdd, Nat.reduceMul, Nat.reduceLeDiff, Nat.reduceLT, Nat.reduceSub, IntWalk.iteOmega, IntWalk.toNatUp, reduceCtorEq, false_and, and_false, false_or, or_false, true_or, or_true, not_true_eq_false, not_false_eq_true, Bool.not_true, Bool.not_false, Bool.and_true, Bool.true_and, Bool.and_false, Bool.false_and, Bool.not_eq_true, beq_self_eq_true, Nat.add_zero, Int.reduceLE, Int.reduceLT, Int.reduceToNat, Int.reduceNeg, BB]
    refine append_bytes (E := 5) (B := g.size) tsl29 Tryd.underlying29 tn5 tz5 tb5 o1 BB.size s4 (by rw [cmdBytes_length]; simp) ?_
    intro w6 h6 o6 b6 _
    have B6 : Bel g.size g h6 := BB.trans b6
    have Bh6 := Bg.trans (B6.mono (by omega))
    have o6' : OBs g.size 5 h6 w6 (1 :: cmdBytes [r, m]) := o6
    simp (config := {maxSteps := 2000000, implicitDefEqProofs := false}) only [go_sem, ↓reduceIte, Nat.reduceEqDiff, Nat.reduceAdd, Nat.reduceMul, Nat.reduceLeDiff, Nat.reduceLT, Nat.reduceSub, IntWalk.iteOmega, IntWalk.toNatUp, reduceCtorEq, false_and, and_false, false_or, or_false, true_or, or_true, not_true_eq_false, not_false_eq_true, Bool.not_true, Bool.not_false, Bool.and_true, Bool.true_and, Bool.and_false, Bool.false_and, Bool.not_eq_true, beq_self_eq_true, Nat.add_zero, Int.reduceLE, Int.reduceLT, Int.reduceToNat, Int.reduceNeg, B6]
    refine (write_ok T h6 _ w6 n l (1 :: cmdBytes [r, m]) (s.bel Bh6) hl o6'.bs (by simp only [List.length_cons, cmdBytes_length, List.length_nil]; omega) (tk.bels Bh6)).use ?_
    rintro _ h7 ⟨⟨w7, rfl, o7⟩, b7⟩
    have el : (1 :: cmdBytes [r, m]).length = 9 := by simp only [List.length_cons, cmdBytes_length, List.length_nil]
    rw [el] at o7 ⊢
    have B7 : Bel g.size g h7 := B6.trans (b7.mono B6.size)
    have Bh7 := Bh6.trans (b7.mono Bh6.size)
    have x7 := B7.get (by omega) x4g
    have y7 := wr_get x7 0
    have hlt7 : h.size + 2 < h7.size := lt_of_get x7
    generalize frmS (1 :: cmdBytes [r, m]) = FR at *
    obtain ⟨E, hE⟩ : ∃ E, E = wrtErr l n 9 := ⟨_, rfl⟩
    rw [← hE] at o7 ⊢
    obtain ⟨z, hz⟩ : ∃ z : Int, z = if E = 0 then n else 0 := ⟨_, rfl⟩
    rw [← hz]
    obtain ⟨pz, cz, rfl, _⟩ := o7.open
    have o7l := o7
    simp (config := {maxSteps := 2000000, implicitDefEqProofs := false}) only [go_sem, ↓reduceIte, Nat.reduceEqDiff, Nat.reduceAdd, Nat.reduceMul, Nat.reduceLeDiff, Nat.reduceLT, Nat.reduceSub, IntWalk.iteOmega, IntWalk.toNatUp, reduceCtorEq, false_and, and_false, false_or, or_false, true_or, or_true, not_true_eq_false, not_false_eq_true, Bool.not_true, Bool.not_false, Bool.and_true, Bool.true_and, Bool.and_false, Bool.false_and, Bool.not_eq_true, beq_self_eq_true, Nat.add_zero, Int.reduceLE, Int.reduceLT, Int.reduceToNat, Int.reduceNeg, B7, y7, hlt7]
    refine ⟨⟨_, rfl, ?_⟩, Bh7.addSet (by omega) _⟩
    exact (o7.setLow (by have := B6.size; omega) _).mono (by have := B6.size; omega)
  · have B0a : Bel g.size g (g.push (.cells (([r, m] : List Nat).map nv).toArray 3)) := Bel.push (Nat.le_refl _) _
    have o0 : OBs g.size 5 ((g.push (.cells (([r, m] : List Nat).map nv).toArray 3)).push (.cells (([1] : List Nat).map bv).toArray 5)) (.slice (some ⟨(g.push (.cells (([r, m] : List Nat).map nv).toArray 3)).size, 0, none⟩) 1 1) [1] := (OBs.made (by decide) (Nat.le_refl _)).mono (by simp)
    have B0 : Bel g.size g ((g.push (.cells (([r, m] : List Nat).map nv).toArray 3)).push (.cells (([1] : List Nat).map bv).toArray 5)) := B0a.addP (by simp) _
    have si0 : NT (g.push (.cells (([r, m] : List Nat).map nv).toArray 3)) (.slice (some ⟨g.size, 0, none⟩) 2 2) [r, m] := ints_made _ _
    have si := si0.bel (Bel.push (Nat.le_refl _) (.cells (([1] : List Nat).map bv).toArray 5))
    have e1 : (g.push (.cells (([r, m] : List Nat).map nv).toArray 3)).size = g.size + 1 := by simp
    rw [e1] at o0
    refine (sfour_ok T _ _ [r, m] si (by simp) (by intro x hx; simp only [List.mem_cons, List.not_mem_nil, or_false] at hx; omega)).use ?_
    rintro w5 h5 ⟨o5, b5⟩
    have BB := B0.trans (b5.mono B0.size)
    have o1 := o0.bel b5 (Nat.le_refl _)
    have s4 := o5.bs
    simp (config := {maxSteps := 2000000, implicitDefEqProofs := false}) only [go_sem, ↓reduceIte, Nat.reduceEqDiff, Nat.reduceAdd, Nat.reduceMul, Nat.reduceLeDiff, Nat.reduceLT, Nat.reduceSub, IntWalk.iteOmega, IntWalk.toNatUp, reduceCtorEq, false_and, and_false, false_or, or_false, true_or, or_true, not_true_eq_false, not_false_eq_true, Bool.not_true, Bool.not_false, Bool.and_true, Bool.true_and, Bool.and_false, Bool.false_and, Bool.not_eq_true, beq_self_eq_true, Nat.add_zero, Int.reduceLE, Int.reduceLT, Int.reduceToNat, Int.reduceNeg, BB]
    refine append_bytes (E := 5) (B := g.size) tsl29 Tryd.underlying29 tn5 tz5 tb5 o1 BB.size s4 (by rw [cmdBytes_length]; simp) ?_
    intro w6 h6 o6 b6 _
    have B6 : Bel g.size g h6 := BB.trans b6
    have Bh6 := Bg.trans (B6.mono (by omega))
    have o6' : OBs g.size 5 h6 w6 (1 :: cmdBytes [r, m]) := o6
    simp (config := {maxSteps := 2000000, implicitDefEqProofs := false}) only [go_sem, ↓reduceIte, Nat.reduceEqDiff, Nat.reduceAdd, Nat.reduceMul, Nat.reduceLeDiff, Nat.reduceLT, Nat.reduceSub, IntWalk.iteOmega, IntWalk.toNatUp, reduceCtorEq, false_and, and_false, false_or, or_false, true_or, or_true, not_true_eq_false, not_false_eq_true, Bool.not_true, Bool.not_false, Bool.and_true, Bool.true_and, Bool.and_false, Bool.false_and, Bool.not_eq_true, beq_self_eq_true, Nat.add_zero, Int.reduceLE, Int.reduceLT, Int.reduceToNat, Int.reduceNeg, B6]
    refine (write_ok T h6 _ w6 n l (1 :: cmdBytes [r, m]) (s.bel Bh6) hl o6'.bs (by simp only [List.length_cons, cmdBytes_length, List.length_nil]; omega) (tk.bels Bh6)).use ?_
    rintro _ h7 ⟨⟨w7, rfl, o7⟩, b7⟩
    have el : (1 :: cmdBytes [r, m]).length = 9 := by simp only [List.length_cons, cmdBytes_length, List.length_nil]
    rw [el] at o7 ⊢
    have B7 : Bel g.size g h7 := B6.trans (b7.mono B6.size)
    have Bh7 := Bh6.trans (b7.mono Bh6.size)
    have x7 := B7.get (by omega) x4g
    have y7 := wr_get x7 0
    have hlt7 : h.size + 2 < h7.size := lt_of_get x7
    generalize frmS (1 :: cmdBytes [r, m]) = FR at *
    obtain ⟨E, hE⟩ : ∃ E, E = wrtErr l n 9 := ⟨_, rfl⟩
    rw [← hE] at o7 ⊢
    obtain ⟨z, hz⟩ : ∃ z : Int, z = if E = 0 then n else 0 := ⟨_, rfl⟩
    rw [← hz]
    obtain ⟨pz, cz, rfl, _⟩ := o7.open
    have o7l := o7
    simp (config := {maxSteps := 2000000, implicitDefEqProofs := false}) only [go_sem, ↓reduceIte, Nat.reduceEqDiff, Nat.reduceAdd, Nat.reduceMul, Nat.reduceLeDiff, Nat.reduceLT, Nat.reduceSub, IntWalk.iteOmega, IntWalk.toNatUp, reduceCtorEq, false_and, and_false, false_or, or_false, true_or, or_true, not_true_eq_false, not_false_eq_true, Bool.not_true, Bool.not_false, Bool.and_true, Bool.true_and, Bool.and_false, Bool.false_and, Bool.not_eq_true, beq_self_eq_true, Nat.add_zero, Int.reduceLE, Int.reduceLT, Int.reduceToNat, Int.reduceNeg, B7, y7, hlt7]
    refine ⟨⟨_, rfl, ?_⟩, Bh7.addSet (by omega) _⟩
    exact (o7.setLow (by have := B6.size; omega) _).mono (by have := B6.size; omega)
  · have B0a : Bel g.size g (g.push (.cells (([r, m] : List Nat).map nv).toArray 3)) := Bel.push (Nat.le_refl _) _
    have si : NT (g.push (.cells (([r, m] : List Nat).map nv).toArray 3)) (.slice (some ⟨g.size, 0, none⟩) 2 2) [r, m] := ints_made _ _
    refine (sfour_ok T _ _ [r, m] si (by simp) (by intro x hx; simp only [List.mem_cons, List.not_mem_nil, or_false] at hx; omega)).use ?_
    rintro w5 h5 ⟨o5, b5⟩
    have BB5 := B0a.trans (b5.mono B0a.size)
    have BB : Bel g.size g (h5.push (.cells (([1] : List Nat).map bv).toArray 5)) := BB5.addP BB5.size _
    have o1 : OBs g.size 5 (h5.push (.cells (([1] : List Nat).map bv).toArray 5)) (.slice (some ⟨h5.size, 0, none⟩) 1 1) [1] := (OBs.made (by decide) (Nat.le_refl _)).mono BB5.size
    have s4 := o5.bs.bel (Bel.push (Nat.le_refl h5.size) (.cells (([1] : List Nat).map bv).toArray 5))
    simp (config := {maxSteps := 2000000, implicitDefEqProofs := false}) only [go_sem, ↓reduceIte, Nat.reduceEqDiff, Nat.reduceAdd, Nat.reduceMul, Nat.reduceLeDiff, Nat.reduceLT, Nat.reduceSub, IntWalk.iteOmega, IntWalk.toNatUp, reduceCtorEq, false_and, and_false, false_or, or_false, true_or, or_true, not_true_eq_false, not_false_eq_true, Bool.not_true, Bool.not_false, Bool.and_true, Bool.true_and, Bool.and_false, Bool.false_and, Bool.not_eq_true, beq_self_eq_true, Nat.add_zero, Int.reduceLE, Int.reduceLT, Int.reduceToNat, Int.reduceNeg, BB5, BB]
    refine append_bytes (E := 5) (B := g.size) tsl29 Tryd.underlying29 tn5 tz5 tb5 o1 BB.size s4 (by rw [cmdBytes_length]; simp) ?_
    intro w6 h6 o6 b6 _
    have B6 : Bel g.size g h6 := BB.trans b6
    have Bh6 := Bg.trans (B6.mono (by omega))
    have o6' : OBs g.size 5 h6 w6 (1 :: cmdBytes [r, m]) := o6
    simp (config := {maxSteps := 2000000, implicitDefEqProofs := false}) only [go_sem, ↓reduceIte, Nat.reduceEqDiff, Nat.reduceAdd, Nat.reduceMul, Nat.reduceLeDiff, Nat.reduceLT, Nat.reduceSub, IntWalk.iteOmega, IntWalk.toNatUp, reduceCtorEq, false_and, and_false, false_or, or_false, true_or, or_true, not_true_eq_false, not_false_eq_true, Bool.not_true, Bool.not_false, Bool.and_true, Bool.true_and, Bool.and_false, Bool.false_and, Bool.not_eq_true, beq_self_eq_true, Nat.add_zero, Int.reduceLE, Int.reduceLT, Int.reduceToNat, Int.reduceNeg, B6]
    refine (write_ok T h6 _ w6 n l (1 :: cmdBytes [r, m]) (s.bel Bh6) hl o6'.bs (by simp only [List.length_cons, cmdBytes_length, List.length_nil]; omega) (tk.bels Bh6)).use ?_
    rintro _ h7 ⟨⟨w7, rfl, o7⟩, b7⟩
    have el : (1 :: cmdBytes [r, m]).length = 9 := by simp only [List.length_cons, cmdBytes_length, List.length_nil]
    rw [el] at o7 ⊢
    have B7 : Bel g.size g h7 := B6.trans (b7.mono B6.size)
    have Bh7 := Bh6.trans (b7.mono Bh6.size)
    have x7 := B7.get (by omega) x4g
    have y7 := wr_get x7 0
    have hlt7 : h.size + 2 < h7.size := lt_of_get x7
    generalize frmS (1 :: cmdBytes [r, m]) = FR at *
    obtain ⟨E, hE⟩ : ∃ E, E = wrtErr l n 9 := ⟨_, rfl⟩
    rw [← hE] at o7 ⊢
    obtain ⟨z, hz⟩ : ∃ z : Int, z = if E = 0 then n else 0 := ⟨_, rfl⟩
    rw [← hz]
    obtain ⟨pz, cz, rfl, _⟩ := o7.open
    have o7l := o7
    simp (config := {maxSteps := 2000000, implicitDefEqProofs := false}) only [go_sem, ↓reduceIte, Nat.reduceEqDiff, Nat.reduceAdd, Nat.reduceMul, Nat.reduceLeDiff, Nat.reduceLT, Nat.reduceSub, IntWalk.iteOmega, IntWalk.toNatUp, reduceCtorEq, false_and, and_false, false_or, or_false, true_or, or_true, not_true_eq_false, not_false_eq_true, Bool.not_true, Bool.not_false, Bool.and_true, Bool.true_and, Bool.and_false, Bool.false_and, Bool.not_eq_true, beq_self_eq_true, Nat.add_zero, Int.reduceLE, Int.reduceLT, Int.reduceToNat, Int.reduceNeg, B7, y7, hlt7]
    refine ⟨⟨_, rfl, ?_⟩, Bh7.addSet (by omega) _⟩
    exact (o7.setLow (by have := B6.size; omega) _).mono (by have := B6.size; omega)
theorem promiseBody_ok (T : World) (h : Hp) (r m : Nat) (hr : r ≤ 65536) (hm : m ≤ 4) :
    CallsH Tryd.prog T 94 #[.agg (balC ⟨r, m⟩).toArray] h fun v' h' => OBs h.size 5 h' v' (1 :: cmdBytes [r, m]) ∧ Bel h.size h h' := by
  refine CallsH.of_code' (args := [_]) Tryd.func94 rfl rfl rfl rfl ?_
  unfold balC
  simp (config := {maxSteps := 2000000, implicitDefEqProofs := false}) only [go_sem, ↓reduceIte, Nat.reduceEqDiff, Nat.reduceAdd, Nat.reduceMul, Nat.reduceLeDiff, Nat.reduceLT, Nat.reduceSub, IntWalk.iteOmega, IntWalk.toNatUp, reduceCtorEq, false_and, and_false, false_or, or_false, true_or, or_true, not_true_eq_false, not_false_eq_true, Bool.not_true, Bool.not_false, Bool.and_true, Bool.true_and, Bool.and_false, Bool.false_and, Bool.not_eq_true, beq_self_eq_true, Nat.add_zero, Int.reduceLE, Int.reduceLT, Int.reduceToNat, Int.reduceNeg]
  obtain ⟨h1, hh1⟩ : ∃ h1 : Hp, h1 = (h.push (.cells [.int .i64 (r : Nat), .int .i64 (m : Nat)].toArray 67)).push (.cells (([1] : List Nat).map bv).toArray 5) := ⟨_, rfl⟩
  have b1 : Bel h.size h h1 := by rw [hh1]; exact ((Bel.refl _ _).add _).add _
  have s1 : h1.size = h.size + 1 + 1 := by rw [hh1]; simp
  have t1 : h1[h.size]? = some (.cells [.int .i64 (r : Nat), .int .i64 (m : Nat)].toArray 67) := by
    rw [hh1, Array.getElem?_push, if_neg (by simp), get_push_last]
  have so : Bs h1 (.slice (some ⟨h.size + 1, 0, none⟩) 1 1) [1] := by
    have := Bs.made (h := h.push (.cells [.int .i64 (r : Nat), .int .i64 (m : Nat)].toArray 67)) (E := 5) (l := [1]) (by decide) 1
    rw [Array.size_push] at this
    rw [hh1]; exact this
  have e1 : (h.push (.cells #[Value.int .i64 (r : Nat), .int .i64 (m : Nat)] 67)).push (.cells #[Value.int .u8 1] 5) = h1 := hh1.symm
  rw [e1]
  clear e1 hh1
  refine (headOf_ok T h1 r (by omega)).use ?_
  rintro w2 h2 ⟨s2, b2⟩
  simp (config := {maxSteps := 2000000, implicitDefEqProofs := false}) only [go_sem, ↓reduceIte, Nat.reduceEqDiff, Nat.reduceAdd, Nat.reduceMul, Nat.reduceLeDiff, Nat.reduceLT, Nat.reduceSub, IntWalk.iteOmega, IntWalk.toNatUp, reduceCtorEq, false_and, and_false, false_or, or_false, true_or, or_true, not_true_eq_false, not_false_eq_true, Bool.not_true, Bool.not_false, Bool.and_true, Bool.true_and, Bool.and_false, Bool.false_and, Bool.not_eq_true, beq_self_eq_true, Nat.add_zero, Int.reduceLE, Int.reduceLT, Int.reduceToNat, Int.reduceNeg]
  refine (joined_ok T h2 _ w2 [1] (high4 r) (so.bel b2) s2 (by simp [high4])).use ?_
  rintro w3 h3 ⟨o3, b3⟩
  have z1 := b2.size
  have z2 := b3.size
  have t3 := b3.get (by omega) (b2.get (by omega) t1)
  have r3 : V.hc h3 ⟨h.size, 1, none⟩ = some (.int .i64 (m : Nat)) := by rw [hc_last t3]; rfl
  simp (config := {maxSteps := 2000000, implicitDefEqProofs := false}) only [go_sem, ↓reduceIte, Nat.reduceEqDiff, Nat.reduceAdd, Nat.reduceMul, Nat.reduceLeDiff, Nat.reduceLT, Nat.reduceSub, IntWalk.iteOmega, IntWalk.toNatUp, reduceCtorEq, false_and, and_false, false_or, or_false, true_or, or_true, not_true_eq_false, not_false_eq_true, Bool.not_true, Bool.not_false, Bool.and_true, Bool.true_and, Bool.and_false, Bool.false_and, Bool.not_eq_true, beq_self_eq_true, Nat.add_zero, Int.reduceLE, Int.reduceLT, Int.reduceToNat, Int.reduceNeg, r3]
  refine (headOf_ok T h3 m (by omega)).use ?_
  rintro w4 h4 ⟨s4, b4⟩
  have o34 := o3.bs.bel b4
  simp (config := {maxSteps := 2000000, implicitDefEqProofs := false}) only [go_sem, ↓reduceIte, Nat.reduceEqDiff, Nat.reduceAdd, Nat.reduceMul, Nat.reduceLeDiff, Nat.reduceLT, Nat.reduceSub, IntWalk.iteOmega, IntWalk.toNatUp, reduceCtorEq, false_and, and_false, false_or, or_false, true_or, or_true, not_true_eq_false, not_false_eq_true, Bool.not_true, Bool.not_false, Bool.and_true, Bool.true_and, Bool.and_false, Bool.false_and, Bool.not_eq_true, beq_self_eq_true, Nat.add_zero, Int.reduceLE, Int.reduceLT, Int.reduceToNat, Int.reduceNeg]
  refine (joined_ok T h4 w3 w4 _ (high4 m) o34 s4 (by simp [high4])).use ?_
  rintro w5 h5 ⟨o5, b5⟩
  have z3 := b4.size
  have B5 : Bel h.size h h5 := (b1.trans (b2.mono (by omega))).trans ((b3.mono (by omega)).trans ((b4.mono (by omega)).trans (b5.mono (by omega))))
  simp (config := {maxSteps := 2000000, implicitDefEqProofs := false}) only [go_sem, ↓reduceIte, Nat.reduceEqDiff, Nat.reduceAdd, Nat.reduceMul, Nat.reduceLeDiff, Nat.reduceLT, Nat.reduceSub, IntWalk.iteOmega, IntWalk.toNatUp, reduceCtorEq, false_and, and_false, false_or, or_false, true_or, or_true, not_true_eq_false, not_false_eq_true, Bool.not_true, Bool.not_false, Bool.and_true, Bool.true_and, Bool.and_false, Bool.false_and, Bool.not_eq_true, beq_self_eq_true, Nat.add_zero, Int.reduceLE, Int.reduceLT, Int.reduceToNat, Int.reduceNeg, B5]
  have el : ([1] ++ high4 r) ++ high4 m = 1 :: cmdBytes [r, m] := rfl
  rw [el] at o5
  exact o5.mono (by omega)
theorem promiseOn_ok (T : World) (h : Hp) (v : Value) (n : Int) (l : List Nat) (b : Bal) (s : Bs h v l) :
    CallsH Tryd.prog T 48 #[.agg [v, .int .i64 n].toArray, .agg (balC b).toArray] h fun v' h' => WrtRes h.size h' v' l n (proErr l n b) (frmS (proB b)) ∧ Bel h.size h h' := by
  obtain ⟨p, c, rfl, _⟩ := s.open
  refine CallsH.of_code' (args := [_, _]) Tryd.func48 rfl rfl rfl rfl ?_
  unfold WrtRes balC
  simp (config := {maxSteps := 2000000, implicitDefEqProofs := false}) only [go_sem, ↓reduceIte, Nat.reduceEqDiff, Nat.reduceAdd, Nat.reduceMul, Nat.reduceLeDiff, Nat.reduceLT, Nat.reduceSub, IntWalk.iteOmega, IntWalk.toNatUp, reduceCtorEq, false_and, and_false, false_or, or_false, true_or, or_true, not_true_eq_false, not_false_eq_true, Bool.not_true, Bool.not_false, Bool.and_true, Bool.true_and, Bool.and_false, Bool.false_and, Bool.not_eq_true, beq_self_eq_true, Nat.add_zero, Int.reduceLE, Int.reduceLT, Int.reduceToNat, Int.reduceNeg]
  refine (tapeMay_ok T _ p l.length c n).use ?_
  rintro _ _ ⟨rfl, rfl⟩
  obtain ⟨h1, hh1⟩ : ∃ h1 : Hp, h1 = (((h.push (.cells [.slice p l.length c, .int .i64 n].toArray 65)).push (.cells [.int .i64 b.r, .int .i64 b.n].toArray 67)).push (.cells [.slice none 0 0, .int .i64 0].toArray 65)).push (.cells [.slice p l.length c, .int .i64 n].toArray 65) := ⟨_, rfl⟩
  have b1 : Bel h.size h h1 := by rw [hh1]; exact ((((Bel.refl _ _).add _).add _).add _).add _
  have s1 : h1.size = h.size + 4 := by rw [hh1]; simp
  have t0 : h1[h.size]? = some (.cells [.slice p l.length c, .int .i64 n].toArray 65) := by
    rw [hh1, Array.getElem?_push, if_neg (by simp; omega), Array.getElem?_push, if_neg (by simp; omega), Array.getElem?_push, if_neg (by simp), get_push_last]
  have t1 : h1[h.size + 1]? = some (.cells [.int .i64 b.r, .int .i64 b.n].toArray 67) := by
    rw [hh1, Array.getElem?_push, if_neg (by simp), Array.getElem?_push, if_neg (by simp), Array.getElem?_push, if_pos (by simp)]
  have x1 : h1[h.size + 2]? = some (.cells [.slice none 0 0, .int .i64 0].toArray 65) := by
    rw [hh1, Array.getElem?_push, if_neg (by simp), Array.getElem?_push, if_pos (by simp)]
  rw [← hh1]
  clear hh1
  by_cases ok : tapeOk l n
  case neg =>
    have ee : proErr l n b = 5 := by unfold proErr; rw [if_pos ok]
    have hd : decide (l.length ≤ 100000 ∧ 0 ≤ n ∧ n ≤ l.length) = false := decide_eq_false ok
    rw [ee, hd]
    have y2 := wr_get x1 0
    have hlt : h.size + 2 < h1.size := by omega
    simp (config := {maxSteps := 2000000, implicitDefEqProofs := false}) only [go_sem, ↓reduceIte, Nat.reduceEqDiff, Nat.reduceAdd, Nat.reduceMul, Nat.reduceLeDiff, Nat.reduceLT, Nat.reduceSub, IntWalk.iteOmega, IntWalk.toNatUp, reduceCtorEq, false_and, and_false, false_or, or_false, true_or, or_true, not_true_eq_false, not_false_eq_true, Bool.not_true, Bool.not_false, Bool.and_true, Bool.true_and, Bool.and_false, Bool.false_and, Bool.not_eq_true, beq_self_eq_true, Nat.add_zero, Int.reduceLE, Int.reduceLT, Int.reduceToNat, Int.reduceNeg, y2, hlt]
    exact ⟨⟨_, rfl, OBs.nil _ _ _⟩, b1.addSet (by omega) _⟩
  have hd : decide (l.length ≤ 100000 ∧ 0 ≤ n ∧ n ≤ l.length) = true := decide_eq_true ok
  have r1 : rd h1 ⟨h.size + 1, 0, none⟩ 2 = some [.int .i64 b.r, .int .i64 b.n] := rd_last t1 rfl
  rw [hd]
  simp (config := {maxSteps := 2000000, implicitDefEqProofs := false}) only [go_sem, ↓reduceIte, Nat.reduceEqDiff, Nat.reduceAdd, Nat.reduceMul, Nat.reduceLeDiff, Nat.reduceLT, Nat.reduceSub, IntWalk.iteOmega, IntWalk.toNatUp, reduceCtorEq, false_and, and_false, false_or, or_false, true_or, or_true, not_true_eq_false, not_false_eq_true, Bool.not_true, Bool.not_false, Bool.and_true, Bool.true_and, Bool.and_false, Bool.false_and, Bool.not_eq_true, beq_self_eq_true, Nat.add_zero, Int.reduceLE, Int.reduceLT, Int.reduceToNat, Int.reduceNeg, r1]
  refine (ballotMay_ok T h1 b).use ?_
  rintro _ _ ⟨rfl, rfl⟩
  obtain ⟨h2, hh2⟩ : ∃ h2 : Hp, h2 = h1.push (.cells (balC b).toArray 67) := ⟨_, rfl⟩
  have b2 : Bel h1.size h1 h2 := by rw [hh2]; exact Bel.push (Nat.le_refl _) _
  have s2 : h2.size = h1.size + 1 := by rw [hh2]; simp
  rw [← hh2]
  clear hh2
  have B2 := b1.trans (b2.mono (by omega))
  have x2 := b2.get (by omega) x1
  have t02 := b2.get (by omega) t0
  have t12 := b2.get (by omega) t1
  by_cases may : ballotMay b
  case neg =>
    have ee : proErr l n b = 2 := by unfold proErr; rw [if_neg (fun hn => hn ok), if_pos may]
    have hd2 : decide (ballotMay b) = false := decide_eq_false may
    rw [ee, hd2]
    have y2 := wr_get x2 0
    have hlt : h.size + 2 < h2.size := by omega
    simp (config := {maxSteps := 2000000, implicitDefEqProofs := false}) only [go_sem, ↓reduceIte, Nat.reduceEqDiff, Nat.reduceAdd, Nat.reduceMul, Nat.reduceLeDiff, Nat.reduceLT, Nat.reduceSub, IntWalk.iteOmega, IntWalk.toNatUp, reduceCtorEq, false_and, and_false, false_or, or_false, true_or, or_true, not_true_eq_false, not_false_eq_true, Bool.not_true, Bool.not_false, Bool.and_true, Bool.true_and, Bool.and_false, Bool.false_and, Bool.not_eq_true, beq_self_eq_true, Nat.add_zero, Int.reduceLE, Int.reduceLT, Int.reduceToNat, Int.reduceNeg, y2, hlt]
    exact ⟨⟨_, rfl, OBs.nil _ _ _⟩, B2.addSet (by omega) _⟩
  have ee : proErr l n b = wrtErr l n 9 := by unfold proErr; rw [if_neg (fun hn => hn ok), if_neg (fun hn => hn may)]
  have hd2 : decide (ballotMay b) = true := decide_eq_true may
  rw [ee, hd2]
  obtain ⟨⟨m1, m2⟩, m3, m4⟩ := may
  obtain ⟨br, bn⟩ := b
  obtain ⟨r, rfl⟩ : ∃ r : Nat, br = r := ⟨br.toNat, by simp at m1; omega⟩
  obtain ⟨m, rfl⟩ : ∃ m : Nat, bn = m := ⟨bn.toNat, by simp at m3; omega⟩
  simp only at m1 m2 m3 m4
  unfold proB
  simp only [Int.toNat_natCast]
  have r2 : rd h2 ⟨h.size + 1, 0, none⟩ 2 = some [.int .i64 (r : Nat), .int .i64 (m : Nat)] := rd_last t12 rfl
  simp (config := {maxSteps := 2000000, implicitDefEqProofs := false}) only [go_sem, ↓reduceIte, Nat.reduceEqDiff, Nat.reduceAdd, Nat.reduceMul, Nat.reduceLeDiff, Nat.reduceLT, Nat.reduceSub, IntWalk.iteOmega, IntWalk.toNatUp, reduceCtorEq, false_and, and_false, false_or, or_false, true_or, or_true, not_true_eq_false, not_false_eq_true, Bool.not_true, Bool.not_false, Bool.and_true, Bool.true_and, Bool.and_false, Bool.false_and, Bool.not_eq_true, beq_self_eq_true, Nat.add_zero, Int.reduceLE, Int.reduceLT, Int.reduceToNat, Int.reduceNeg, r2]
  refine (promiseBody_ok T h2 r m (by omega) (by omega)).use ?_
  rintro w3 h3 ⟨o3, b3⟩
  have s3 := b3.size
  have Bh3 := B2.trans (b3.mono (by omega))
  have x3 := b3.get (by omega) x2
  have t03 := b3.get (by omega) t02
  have r3 : rd h3 ⟨h.size, 0, none⟩ 2 = some [.slice p l.length c, .int .i64 n] := rd_last t03 rfl
  have el : (1 :: cmdBytes [r, m]).length = 9 := by simp only [List.length_cons, cmdBytes_length, List.length_nil]
  simp (config := {maxSteps := 2000000, implicitDefEqProofs := false}) only [go_sem, ↓reduceIte, Nat.reduceEqDiff, Nat.reduceAdd, Nat.reduceMul, Nat.reduceLeDiff, Nat.reduceLT, Nat.reduceSub, IntWalk.iteOmega, IntWalk.toNatUp, reduceCtorEq, false_and, and_false, false_or, or_false, true_or, or_true, not_true_eq_false, not_false_eq_true, Bool.not_true, Bool.not_false, Bool.and_true, Bool.true_and, Bool.and_false, Bool.false_and, Bool.not_eq_true, beq_self_eq_true, Nat.add_zero, Int.reduceLE, Int.reduceLT, Int.reduceToNat, Int.reduceNeg, r3]
  refine (recordOn_ok T h3 _ w3 n l (1 :: cmdBytes [r, m]) (s.bel Bh3) ok.1 o3.bs (by omega) ok).use ?_
  rintro _ h4 ⟨⟨w4, rfl, o4⟩, b4⟩
  rw [el] at o4 ⊢
  have s4 := b4.size
  have Bh4 := Bh3.trans (b4.mono (by omega))
  have x4 := b4.get (by omega) x3
  generalize frmS (1 :: cmdBytes [r, m]) = FR at *
  obtain ⟨E, hE⟩ : ∃ E, E = wrtErr l n 9 := ⟨_, rfl⟩
  rw [← hE] at o4 ⊢
  obtain ⟨z, hz⟩ : ∃ z : Int, z = if E = 0 then n else 0 := ⟨_, rfl⟩
  rw [← hz]
  obtain ⟨pz, cz, hwz, _⟩ := o4.open
  generalize (if E = 0 then l ++ FR else []) = LL at *
  subst hwz
  have hne : ¬ h.size + 2 = h4.size := by omega
  have x5 : (h4.push (.cells [.slice pz LL.length cz, .int .i64 z].toArray 65))[h.size + 2]? = some (.cells [.slice none 0 0, .int .i64 0].toArray 65) := by
    rw [get_push_ne (by omega)]; exact x4
  have y4 := wr_get x4 0
  have hlt4 : h.size + 2 < h4.size := lt_of_get x4
  simp (config := {maxSteps := 2000000, implicitDefEqProofs := false}) only [go_sem, ↓reduceIte, Nat.reduceEqDiff, Nat.reduceAdd, Nat.reduceMul, Nat.reduceLeDiff, Nat.reduceLT, Nat.reduceSub, IntWalk.iteOmega, IntWalk.toNatUp, reduceCtorEq, false_and, and_false, false_or, or_false, true_or, or_true, not_true_eq_false, not_false_eq_true, Bool.not_true, Bool.not_false, Bool.and_true, Bool.true_and, Bool.and_false, Bool.false_and, Bool.not_eq_true, beq_self_eq_true, Nat.add_zero, Int.reduceLE, Int.reduceLT, Int.reduceToNat, Int.reduceNeg, y4, hne, hlt4]
  refine ⟨⟨_, rfl, ?_⟩, (Bh4.addSet (by omega) _).addP (by simp; omega) _⟩
  exact ((o4.setLow (by omega) _).push _).mono (by omega)
end Go.Proofs.YtnpacofabdgcdaaDoor
