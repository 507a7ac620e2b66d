/- The digest of bytes: what the document computes; no condition but those in the statements. -/
import Derived.Test.YtnpacofabdgcdaaDoorShar
import Derived.Test.YtnpacofabdgcdaaDoorShas
namespace Go.Proofs.YtnpacofabdgcdaaDoor
open Go Go.V
set_option linter.unusedSimpArgs false
set_option linter.unusedVariables false
set_option maxRecDepth 100000
theorem dig0_ts {h : Hp} : NT (h.push (.cells (dig0.map nv).toArray 3)) (.slice (some ⟨h.size, 0, none⟩) 8 8) dig0 := by
  constructor
  rw [encs_one nv]
  exact Sl.made (by simp [dig0]) 8
theorem digested_ok (T : World) (h : Hp) (v : Value) (l : List Nat) (s : Bs h v l) (hl : l.length ≤ 100000) :
    CallsH Tryd.prog T 73 #[v] h fun v' h' => OBs h.size 5 h' v' (shaS l) ∧ Bel h.size h h' := by
  obtain ⟨p, cp, rfl, hc1⟩ := s.opend
  have hbt : Byte l := s.byte
  refine CallsH.of_code' (args := [_]) Tryd.func73 rfl rfl rfl rfl ?_
  simp (config := {maxSteps := 2000000, implicitDefEqProofs := false}) only [go_sem, ↓reduceIte, Nat.reduceEqDiff, Nat.reduceAdd, Nat.reduceMul, Nat.reduceLeDiff, Nat.reduceLT, Nat.reduceSub, IntWalk.iteOmega, IntWalk.toNatUp, reduceCtorEq, Int.reduceLE, Int.reduceLT, Int.reduceToNat, Int.reduceNeg]
  refine VS.loop' (fun F g => Bel h.size h g ∧ F 0 = .slice p l.length cp ∧ ∃ i : Nat, i ≤ l.length ∧ F 4 = .int .i64 i ∧ OBs h.size 5 g (F 3) (l.take i))
    (fun F _ => l.length - (vi (F 4)).toNat) rfl ⟨Bel.refl _ _, rfl, 0, by omega, rfl, OBs.nil _ _ _⟩ ?_
  rintro F g ⟨hg, f0, i, hi, f4, ho⟩
  have hgs := hg.size
  by_cases hlt : i < l.length
  case pos =>
    have hlt' : (i : Int) < l.length := by omega
    obtain ⟨bb, ob, rfl, hbb, hcs⟩ := hc1 (by intro e; subst e; simp at hlt)
    have g1 : V.hc g ⟨bb, ob + i, none⟩ = some (.int .u8 (l.getD i 0 : Nat)) := by rw [hg.hc (by exact hbb)]; exact hcs i hlt
    have hby := getD_byte hbt i
    simp (config := {maxSteps := 2000000, implicitDefEqProofs := false}) only [go_sem, ↓reduceIte, Nat.reduceEqDiff, Nat.reduceAdd, Nat.reduceMul, Nat.reduceLeDiff, Nat.reduceLT, Nat.reduceSub, IntWalk.iteOmega, IntWalk.toNatUp, reduceCtorEq, Int.reduceLE, Int.reduceLT, Int.reduceToNat, Int.reduceNeg, f0, f4, hlt', g1]
    refine append_bytes (E := 5) (B := h.size) tsl29 Tryd.underlying29 tn5 tz5 tb5 (ho.push _) (by simp; omega) (Bs.one hby 1) (by simp; omega) ?_
    intro w' g' ho' hb' _
    simp (config := {maxSteps := 2000000, implicitDefEqProofs := false}) only [go_sem, ↓reduceIte, Nat.reduceEqDiff, Nat.reduceAdd, Nat.reduceMul, Nat.reduceLeDiff, Nat.reduceLT, Nat.reduceSub, IntWalk.iteOmega, IntWalk.toNatUp, reduceCtorEq, Int.reduceLE, Int.reduceLT, Int.reduceToNat, Int.reduceNeg, f0, f4]
    refine ⟨⟨(hg.add _).trans hb', f0, i + 1, hlt, rfl, ?_⟩, ?_⟩
    · rw [take_snoc l i hlt]
      have e : l.getD i 0 = l[i] := by rw [List.getD_eq_getElem?_getD, List.getElem?_eq_getElem hlt]; rfl
      rw [← e]; exact ho'
    · simp only [vi, updo_some, ↓reduceIte, f4]; omega
  have hge : ¬ (i : Int) < l.length := by omega
  obtain rfl : i = l.length := by omega
  rw [List.take_length] at ho
  simp (config := {maxSteps := 2000000, implicitDefEqProofs := false}) only [go_sem, ↓reduceIte, Nat.reduceEqDiff, Nat.reduceAdd, Nat.reduceMul, Nat.reduceLeDiff, Nat.reduceLT, Nat.reduceSub, IntWalk.iteOmega, IntWalk.toNatUp, reduceCtorEq, Int.reduceLE, Int.reduceLT, Int.reduceToNat, Int.reduceNeg, f0, f4, hge]
  refine append_bytes (E := 5) (B := h.size) tsl29 Tryd.underlying29 tn5 tz5 tb5 (ho.push _) (by simp; omega) (Bs.one (x := 128) (by omega) 1) (by simp; omega) ?_
  intro w3 h3 o3 b3 bt3
  have B3 : Bel h.size h h3 := (hg.add _).trans b3
  have o3' : OBs h.size 5 h3 w3 (markS l 0) := o3
  simp (config := {maxSteps := 2000000, implicitDefEqProofs := false}) only [go_sem, ↓reduceIte, Nat.reduceEqDiff, Nat.reduceAdd, Nat.reduceMul, Nat.reduceLeDiff, Nat.reduceLT, Nat.reduceSub, IntWalk.iteOmega, IntWalk.toNatUp, reduceCtorEq, Int.reduceLE, Int.reduceLT, Int.reduceToNat, Int.reduceNeg, f0]
  refine VS.loop' (fun F g => Bel h.size h g ∧ F 0 = .slice p l.length cp ∧ ∃ j : Nat, j ≤ padN l.length ∧ OBs h.size 5 g (F 3) (markS l j))
    (fun F _ => l.length + 100 - slen (F 3)) rfl ⟨B3, f0, 0, by omega, o3'⟩ ?_
  clear o3' o3 B3 b3 bt3 hgs f0 f4 hge hlt hi ho hg F g
  rintro F g ⟨hg, f0, j, hj, ho⟩
  obtain ⟨p4, c4, f3, _⟩ := ho.open
  have ml := markS_length l j
  obtain ⟨M, hM⟩ : ∃ M, M = l.length + j + 1 := ⟨_, rfl⟩
  rw [ml, ← hM] at f3
  have hp64 : padN l.length < 64 := by unfold padN; omega
  have d1 : (M : Int).tmod 64 = ((M % 64 : Nat) : Int) := rfl
  have hgs := hg.size
  by_cases hm : M % 64 = 56
  case neg =>
    have hm' : ¬ ((M % 64 : Nat) : Int) = 56 := by omega
    have hne : j ≠ padN l.length := fun e => hm (by rw [hM]; exact (pad_more hj).2 e)
    simp (config := {maxSteps := 2000000, implicitDefEqProofs := false}) only [go_sem, ↓reduceIte, Nat.reduceEqDiff, Nat.reduceAdd, Nat.reduceMul, Nat.reduceLeDiff, Nat.reduceLT, Nat.reduceSub, IntWalk.iteOmega, IntWalk.toNatUp, reduceCtorEq, Int.reduceLE, Int.reduceLT, Int.reduceToNat, Int.reduceNeg, f0, f3, d1, hm']
    have ho2 := ho
    rw [f3] at ho2
    refine append_bytes (E := 5) (B := h.size) tsl29 Tryd.underlying29 tn5 tz5 tb5 (ho2.push _) (by simp; omega) (Bs.one (x := 0) (by omega) 1) (by rw [ml]; simp; omega) ?_
    intro w' g' ho' hb' _
    obtain ⟨p5, c5, rfl, _⟩ := ho'.open
    simp (config := {maxSteps := 2000000, implicitDefEqProofs := false}) only [go_sem, ↓reduceIte, Nat.reduceEqDiff, Nat.reduceAdd, Nat.reduceMul, Nat.reduceLeDiff, Nat.reduceLT, Nat.reduceSub, IntWalk.iteOmega, IntWalk.toNatUp, reduceCtorEq, Int.reduceLE, Int.reduceLT, Int.reduceToNat, Int.reduceNeg, f0]
    refine ⟨⟨(hg.add _).trans hb', f0, j + 1, by omega, ?_⟩, ?_⟩
    · rw [markS_snoc]; exact ho'
    · simp only [slen, updo_some, ↓reduceIte, f3, List.length_append, ml, List.length_singleton]; omega
  have hjn : j = padN l.length := (pad_more hj).1 (by rw [← hM]; exact hm)
  have hm' : ((M % 64 : Nat) : Int) = 56 := by omega
  obtain ⟨xL, hxL⟩ : ∃ x : Int, x = ((8 * l.length : Nat) : Int) := ⟨_, rfl⟩
  have eL : Unit → 8 * (l.length : Int) = xL := fun _ => by rw [hxL]; omega
  have xLb : 0 ≤ xL ∧ xL ≤ 1000000 := by rw [hxL]; omega
  obtain ⟨y0, hy0⟩ : ∃ x : Int, x = ((8 * l.length / 16777216 : Nat) : Int) := ⟨_, rfl⟩
  obtain ⟨y1, hy1⟩ : ∃ x : Int, x = ((8 * l.length / 65536 : Nat) : Int) := ⟨_, rfl⟩
  obtain ⟨y2, hy2⟩ : ∃ x : Int, x = ((8 * l.length / 256 : Nat) : Int) := ⟨_, rfl⟩
  obtain ⟨z0, hz0⟩ : ∃ x : Int, x = ((8 * l.length / 16777216 % 256 : Nat) : Int) := ⟨_, rfl⟩
  obtain ⟨z1, hz1⟩ : ∃ x : Int, x = ((8 * l.length / 65536 % 256 : Nat) : Int) := ⟨_, rfl⟩
  obtain ⟨z2, hz2⟩ : ∃ x : Int, x = ((8 * l.length / 256 % 256 : Nat) : Int) := ⟨_, rfl⟩
  obtain ⟨z3, hz3⟩ : ∃ x : Int, x = ((8 * l.length % 256 : Nat) : Int) := ⟨_, rfl⟩
  have q0 : Unit → xL.tdiv 16777216 = y0 := fun _ => by rw [hxL, hy0]; rfl
  have q1 : Unit → xL.tdiv 65536 = y1 := fun _ => by rw [hxL, hy1]; rfl
  have q2 : Unit → xL.tdiv 256 = y2 := fun _ => by rw [hxL, hy2]; rfl
  have r0 : Unit → y0 % 256 = z0 := fun _ => by rw [hy0, hz0]; rfl
  have r1 : Unit → y1 % 256 = z1 := fun _ => by rw [hy1, hz1]; rfl
  have r2 : Unit → y2 % 256 = z2 := fun _ => by rw [hy2, hz2]; rfl
  have r3 : Unit → xL % 256 = z3 := fun _ => by rw [hxL, hz3]; rfl
  have yb : (0 ≤ y0 ∧ y0 ≤ 1000000) ∧ (0 ≤ y1 ∧ y1 ≤ 1000000) ∧ (0 ≤ y2 ∧ y2 ≤ 1000000) := by rw [hy0, hy1, hy2]; omega
  obtain ⟨⟨yb1, yb2⟩, ⟨yb3, yb4⟩, yb5, yb6⟩ := yb
  clear hxL hy0 hy1 hy2
  simp (config := {maxSteps := 2000000, implicitDefEqProofs := false}) only [go_sem, ↓reduceIte, Nat.reduceEqDiff, Nat.reduceAdd, Nat.reduceMul, Nat.reduceLeDiff, Nat.reduceLT, Nat.reduceSub, IntWalk.iteOmega, IntWalk.toNatUp, reduceCtorEq, Int.reduceLE, Int.reduceLT, Int.reduceToNat, Int.reduceNeg, f0, f3, d1, hm', eL (), q0 (), q1 (), q2 (), r0 (), r1 (), r2 (), r3 ()]
  subst hz0 hz1 hz2 hz3
  have ho2 := ho
  rw [f3] at ho2
  refine append_bytes (E := 5) (B := h.size) tsl29 Tryd.underlying29 tn5 tz5 tb5 (ho2.push _) (by simp; omega) (Bs.made (l := lenB l.length) (lenB_byte _) 8) (by rw [ml, lenB_length]; omega) ?_
  intro w4 h4 o4 b4 bt4
  have ep : markS l j ++ lenB l.length = spadS l := by rw [hjn]; rfl
  rw [ep] at o4
  have B4 : Bel h.size h h4 := (hg.add _).trans b4
  have pl := spadS_length l
  obtain ⟨N, hN⟩ : ∃ N, N = shaN l.length := ⟨_, rfl⟩
  have hN2 : N ≤ 2000 := by rw [hN]; unfold shaN; omega
  have hN1 : 0 < N := by rw [hN]; unfold shaN; omega
  rw [← hN] at pl
  obtain ⟨pw, cw, hw4, hcw⟩ := o4.open
  rw [pl] at hw4 hcw
  have sP := o4.bs
  have hb4 : Bel h4.size h4 (h4.push (.cells (dig0.map nv).toArray 3)) := Bel.push (Nat.le_refl _) _
  have hd0 := dig0_ts (h := h4)
  simp (config := {maxSteps := 2000000, implicitDefEqProofs := false}) only [go_sem, ↓reduceIte, Nat.reduceEqDiff, Nat.reduceAdd, Nat.reduceMul, Nat.reduceLeDiff, Nat.reduceLT, Nat.reduceSub, IntWalk.iteOmega, IntWalk.toNatUp, reduceCtorEq, Int.reduceLE, Int.reduceLT, Int.reduceToNat, Int.reduceNeg, hw4]
  refine VS.loop' (fun F g => Bel h4.size h4 g ∧ F 3 = w4 ∧ ∃ j : Nat, j ≤ N ∧ F 7 = .int .i64 ((64 * j : Nat) : Int) ∧ NT g (F 6) (digN (spadS l) j))
    (fun F _ => 64 * N - (vi (F 7)).toNat) rfl ⟨hb4, hw4.symm, 0, by omega, rfl, hd0⟩ ?_
  clear f0 f3 d1 hm' hm ho ho2 hg hgs b4 bt4 hb4 hd0 ml F g
  rintro F g ⟨hg, f3, j, hj, f7, sd⟩
  have hgs := hg.size
  have f3' := f3.trans hw4
  obtain ⟨dl, dw⟩ := digN_ok (spadS l) j
  by_cases hlt : j < N
  case pos =>
    have sPg := sP.bel hg
    rw [hw4] at sPg
    obtain ⟨J, hJ⟩ : ∃ J, J = 64 * j := ⟨_, rfl⟩
    rw [← hJ] at f7
    have hl1 : (J : Int) < ((64 * N : Nat) : Int) := by omega
    have hdl : ((spadS l).drop J).length = 64 * N - J := by rw [List.length_drop, pl]
    have h64 : (J : Int) + 64 ≤ (cw : Int) := by omega
    have hJ0 : (0 : Int) ≤ (J : Int) + 64 := by omega
    have t1 : ((J : Int) + 64).toNat = J + 64 := by omega
    have hJle : (J : Int) ≤ (J : Int) + 64 := by omega
    have hJc : ¬ cw = J := by omega
    obtain ⟨bw, ow, rfl, _, _⟩ : ∃ b o, pw = some ⟨b, o, none⟩ ∧ True ∧ True := by
      obtain ⟨p', c', hv, hh⟩ := sPg.opend
      simp only [Value.slice.injEq] at hv
      obtain ⟨rfl, _, _⟩ := hv
      obtain ⟨b, o, hp, _⟩ := hh (by intro e; have := congrArg List.length e; rw [pl] at this; simp at this; omega)
      exact ⟨b, o, hp, trivial, trivial⟩
    simp (config := {maxSteps := 2000000, implicitDefEqProofs := false}) only [go_sem, ↓reduceIte, Nat.reduceEqDiff, Nat.reduceAdd, Nat.reduceMul, Nat.reduceLeDiff, Nat.reduceLT, Nat.reduceSub, IntWalk.iteOmega, IntWalk.toNatUp, reduceCtorEq, Int.reduceLE, Int.reduceLT, Int.reduceToNat, Int.reduceNeg, f3', f7, hl1, h64, hJ0, t1, hJle, hJc]
    rw [show J + 64 - J = 64 by omega]
    have sB : Bs g (.slice (some ⟨bw, ow + J, none⟩) 64 (cw - J)) (((spadS l).drop J).take 64) := by
      have q := bs_cutF sPg (k := J) (by omega) pl (cw - J)
      rw [← hdl] at q
      exact Bs.fore q (by omega) _
    refine (compressed_ok T g (F 6) _ (digN (spadS l) j) _ sd dl dw sB (by rw [List.length_take, hdl]; omega)).use ?_
    rintro w5 g2 ⟨o5, b5⟩
    simp (config := {maxSteps := 2000000, implicitDefEqProofs := false}) only [go_sem, ↓reduceIte, Nat.reduceEqDiff, Nat.reduceAdd, Nat.reduceMul, Nat.reduceLeDiff, Nat.reduceLT, Nat.reduceSub, IntWalk.iteOmega, IntWalk.toNatUp, reduceCtorEq, Int.reduceLE, Int.reduceLT, Int.reduceToNat, Int.reduceNeg, f3', f7]
    refine ⟨⟨hg.trans (b5.mono hgs), f3, j + 1, hlt, ?_, ?_⟩, ?_⟩
    · show Value.int .i64 _ = _
      congr 1; omega
    · rw [show digN (spadS l) (j + 1) = compW (digN (spadS l) j) (((spadS l).drop (64 * j)).take 64) from rfl, ← hJ]; exact o5.ts
    · simp only [vi, updo_some, ↓reduceIte, f7]; omega
  have hge : ¬ (((64 * j : Nat) : Int) < ((64 * N : Nat) : Int)) := by omega
  obtain rfl : j = N := by omega
  have eS : shaS l = cmdBytes (digN (spadS l) j) := by rw [shaS, ← hN]
  obtain ⟨D, hD⟩ : ∃ D, D = digN (spadS l) j := ⟨_, rfl⟩
  rw [← hD] at dl dw sd eS
  rw [eS]
  obtain ⟨v6, hv6⟩ : ∃ v6, v6 = F 6 := ⟨_, rfl⟩
  rw [← hv6] at sd
  simp (config := {maxSteps := 2000000, implicitDefEqProofs := false}) only [go_sem, ↓reduceIte, Nat.reduceEqDiff, Nat.reduceAdd, Nat.reduceMul, Nat.reduceLeDiff, Nat.reduceLT, Nat.reduceSub, IntWalk.iteOmega, IntWalk.toNatUp, reduceCtorEq, Int.reduceLE, Int.reduceLT, Int.reduceToNat, Int.reduceNeg, f3', f7, hge]
  refine VS.loop' (fun F' g' => Bel g.size g g' ∧ F' 6 = v6 ∧ ∃ i : Nat, i ≤ 8 ∧ F' 9 = .int .i64 i ∧ OBs g.size 5 g' (F' 8) (cmdBytes (D.take i)))
    (fun F _ => 8 - (vi (F 9)).toNat) rfl ⟨Bel.refl _ _, hv6.symm, 0, by omega, rfl, OBs.nil _ _ _⟩ ?_
  clear f3 f3' f7 hge hv6 F
  rintro F g2 ⟨hg2, f6, i, hi, f9, ho⟩
  have hgs2 := hg2.size
  by_cases hlt : i < 8
  case pos =>
    have hlt' : (i : Int) < 8 := by omega
    have sd2 := sd.bel hg2
    obtain ⟨pu, cu, fu, hcu⟩ := nv_open sd2
    obtain ⟨bu, ou, rfl, hbu, hcu⟩ := hcu (by intro e; rw [e] at dl; cases dl)
    rw [dl] at fu hcu
    have f6' := f6.trans fu
    have n1 := hcu i hlt
    have hxb := dw.getD i
    have et : D.take (i + 1) = D.take i ++ [D.getD i 0] := by
      rw [take_snoc _ i (by omega), List.getD_eq_getElem?_getD, List.getElem?_eq_getElem (by omega)]; rfl
    generalize D.getD i 0 = x at *
    obtain ⟨yx, hyx⟩ : ∃ y : Int, y = (x : Int) := ⟨_, rfl⟩
    obtain ⟨y0, hy0⟩ : ∃ y : Int, y = ((x / 16777216 : Nat) : Int) := ⟨_, rfl⟩
    obtain ⟨y1, hy1⟩ : ∃ y : Int, y = ((x / 65536 : Nat) : Int) := ⟨_, rfl⟩
    obtain ⟨y2, hy2⟩ : ∃ y : Int, y = ((x / 256 : Nat) : Int) := ⟨_, rfl⟩
    obtain ⟨z0, hz0⟩ : ∃ y : Int, y = ((x / 16777216 % 256 : Nat) : Int) := ⟨_, rfl⟩
    obtain ⟨z1, hz1⟩ : ∃ y : Int, y = ((x / 65536 % 256 : Nat) : Int) := ⟨_, rfl⟩
    obtain ⟨z2, hz2⟩ : ∃ y : Int, y = ((x / 256 % 256 : Nat) : Int) := ⟨_, rfl⟩
    obtain ⟨z3, hz3⟩ : ∃ y : Int, y = ((x % 256 : Nat) : Int) := ⟨_, rfl⟩
    have q0 : Unit → yx.tdiv 16777216 = y0 := fun _ => by rw [hyx, hy0]; rfl
    have q1 : Unit → yx.tdiv 65536 = y1 := fun _ => by rw [hyx, hy1]; rfl
    have q2 : Unit → yx.tdiv 256 = y2 := fun _ => by rw [hyx, hy2]; rfl
    have r0 : Unit → y0 % 256 = z0 := fun _ => by rw [hy0, hz0]; rfl
    have r1 : Unit → y1 % 256 = z1 := fun _ => by rw [hy1, hz1]; rfl
    have r2 : Unit → y2 % 256 = z2 := fun _ => by rw [hy2, hz2]; rfl
    have r3 : Unit → yx % 256 = z3 := fun _ => by rw [hyx, hz3]; rfl
    have yb : (0 ≤ y0 ∧ y0 ≤ 4294967296) ∧ (0 ≤ y1 ∧ y1 ≤ 4294967296) ∧ (0 ≤ y2 ∧ y2 ≤ 4294967296) ∧ (0 ≤ yx ∧ yx ≤ 4294967296) := by rw [hy0, hy1, hy2, hyx]; omega
    obtain ⟨⟨yb1, yb2⟩, ⟨yb3, yb4⟩, ⟨yb5, yb6⟩, yb7, yb8⟩ := yb
    rw [← hyx] at n1
    have hcl : (cmdBytes (D.take i)).length ≤ 32 := by rw [cmdBytes_length, List.length_take]; omega
    clear hyx hy0 hy1 hy2
    simp (config := {maxSteps := 2000000, implicitDefEqProofs := false}) only [go_sem, ↓reduceIte, Nat.reduceEqDiff, Nat.reduceAdd, Nat.reduceMul, Nat.reduceLeDiff, Nat.reduceLT, Nat.reduceSub, IntWalk.iteOmega, IntWalk.toNatUp, reduceCtorEq, Int.reduceLE, Int.reduceLT, Int.reduceToNat, Int.reduceNeg, f6', f9, hlt']
    refine VS.w (g2.size) [25, 26] (.q 0 (.q 1 (.q 2 (.q 3 (.q 4 (.q 5 (.q 6 (.q 7 (.q 8 (.q 9 (.q 10 (.q 11 (.q 12 (.q 13 (.q 14 (.q 15 (.q 16 (.q 17 (.q 18 (.q 19 (.q 20 (.q 21 (.q 22 (.q 23 (.s 24 (.w 25 (.w 26 .nil))))))))))))))))))))))))))) mixed (by kernel_rfl) ?_
    simp (config := {maxSteps := 2000000, implicitDefEqProofs := false}) only [go_sem, ↓reduceIte, Nat.reduceEqDiff, Nat.reduceAdd, Nat.reduceMul, Nat.reduceLeDiff, Nat.reduceLT, Nat.reduceSub, IntWalk.iteOmega, IntWalk.toNatUp, reduceCtorEq, Int.reduceLE, Int.reduceLT, Int.reduceToNat, Int.reduceNeg, f6', f9, hlt', n1, hbu, q0 (), q1 (), q2 (), r0 (), r1 (), r2 (), r3 ()]
    subst hz0 hz1 hz2 hz3
    refine append_bytes (E := 5) (B := g.size) tsl29 Tryd.underlying29 tn5 tz5 tb5 (ho.push _) (by simp; omega) (Bs.made (l := high4 x) (high4_byte x) 4) (by simp [high4]; omega) ?_
    intro w' g' ho' hb' _
    simp (config := {maxSteps := 2000000, implicitDefEqProofs := false}) only [go_sem, ↓reduceIte, Nat.reduceEqDiff, Nat.reduceAdd, Nat.reduceMul, Nat.reduceLeDiff, Nat.reduceLT, Nat.reduceSub, IntWalk.iteOmega, IntWalk.toNatUp, reduceCtorEq, Int.reduceLE, Int.reduceLT, Int.reduceToNat, Int.reduceNeg, f9]
    refine ⟨⟨(hg2.addP (by omega) _).trans hb', f6, i + 1, hlt, rfl, ?_⟩, ?_⟩
    · rw [et]
      unfold cmdBytes at ho' ⊢
      rw [List.flatMap_append]
      simp only [List.flatMap_cons, List.flatMap_nil, List.append_nil]
      exact ho'
    · simp only [vi, updo_some, ↓reduceIte, f9]; omega
  have hge : ¬ (i : Int) < 8 := by omega
  obtain rfl : i = 8 := by omega
  rw [List.take_of_length_le (by omega)] at ho
  simp (config := {maxSteps := 2000000, implicitDefEqProofs := false}) only [go_sem, ↓reduceIte, Nat.reduceEqDiff, Nat.reduceAdd, Nat.reduceMul, Nat.reduceLeDiff, Nat.reduceLT, Nat.reduceSub, IntWalk.iteOmega, IntWalk.toNatUp, reduceCtorEq, Int.reduceLE, Int.reduceLT, Int.reduceToNat, Int.reduceNeg, f9, hge]
  have hh4 := B4.size
  exact ⟨ho.mono (by omega), B4.trans ((hg.mono hh4).trans (hg2.mono (by omega)))⟩
end Go.Proofs.YtnpacofabdgcdaaDoor
