/- LineTakes holds: line.Take answers what the document says, at every argument, and changes none of them; without any condition. -/
import Derived.Test.YtjgbajgmndkfjaaTakf
namespace Go.Proofs.Ytjgbajgmndkfjaa
open Go Go.V
set_option linter.unusedSimpArgs false
set_option linter.unusedVariables false
set_option maxRecDepth 100000
theorem fitL_eight {h : Hp} {cs : List Value} (hf : fitL Try.prog h (rep 8 [4]) cs) : ∃ s : List Bool, s.length = 8 ∧ cs = s.map Value.bool := by
  have hl := fitL_length hf
  have hb := fitL_bools (a := 0) (n := 8) hf (by kernel_rfl)
  have hl : cs.length = 8 := hl
  refine ⟨(List.range 8).map (cb cs), by simp, ?_⟩
  apply List.ext_getElem?
  intro i
  by_cases hi : i < 8
  · have := hb i (by omega) (by omega)
    rw [nth_eq] at this
    rw [this]
    simp [hi]
  · rw [List.getElem?_eq_none (by omega), List.getElem?_eq_none (by simp; omega)]
set_option maxHeartbeats 1000000 in
theorem lineTakes_ok : LawOk Try.prog 28 Try.f28.params.toList := by
  intro T args hfit
  rw [show Try.f28.params.toList = [39, 26] from rfl] at hfit
  obtain ⟨v, _, rfl, ⟨k1, h1⟩, hfit⟩ := fitAll_cons hfit
  obtain ⟨u, _, rfl, ⟨k2, h2⟩, hfit⟩ := fitAll_cons hfit
  obtain rfl := fitAll_nil hfit
  obtain ⟨cs, rfl, hl, hf⟩ := fitV_struct (l := 26 :: rep 2 [3] ++ rep 8 [4]) Try.underlying39 (by kernel_rfl) (by kernel_rfl) h1
  obtain ⟨v, cs, k3, rfl, hk, hf⟩ := fitL_cell hf
  obtain ⟨kl, s, hkl⟩ := fit_bytes Try.underlying26 Try.underlying5 (by kernel_rfl) (by kernel_rfl) hk
  obtain ⟨sent, _, rfl, r1, r2, hf⟩ := fitL_int Try.underlying3 hf
  obtain ⟨top, cs, rfl, r3, r4, hf⟩ := fitL_int Try.underlying3 hf
  obtain ⟨sb, hsb, rfl⟩ := fitL_eight hf
  obtain ⟨d, sd, hd⟩ := fit_bytes Try.underlying26 Try.underlying5 (by kernel_rfl) (by kernel_rfl) (fitV_one ta26 h2)
  have cu := fit_cap Try.underlying26 (fitV_one ta26 h2)
  generalize T.heap = h at *
  refine CallsH.of_code' (args := [_, _]) Try.func28 rfl rfl rfl rfl ?_
  have hC11 := chanC_length v sent top sb hsb
  have tk := take_len hC11
  have hfold : (v :: Value.int .i64 sent :: Value.int .i64 top :: sb.map Value.bool) = chanC v sent top sb := rfl
  rw [hfold]
  simp (config := {maxSteps := 2000000, implicitDefEqProofs := false}) only [go_sem, ↓reduceIte, Nat.reduceEqDiff, Nat.reduceAdd, Nat.reduceMul, Nat.reduceLeDiff, Nat.reduceLT, Nat.reduceSub, IntWalk.iteOmega, IntWalk.toNatUp, reduceCtorEq, false_and, and_false, false_or, or_false, true_or, or_true, not_true_eq_false, not_false_eq_true, Bool.not_true, Bool.not_false, Bool.and_true, Bool.true_and, Bool.and_false, Bool.false_and, Bool.not_eq_true, beq_self_eq_true, Nat.add_zero, Int.reduceLE, Int.reduceLT, Int.reduceToNat, Int.reduceNeg, hC11, tk]
  refine (channels_ok T _ v kl sent top sb hsb (s.bel (Bel.push (Nat.le_refl _) _)) hkl).use ?_
  rintro _ g1 ⟨⟨w, rfl, o1⟩, b1⟩
  obtain ⟨p2, c2, rfl, _⟩ := o1.open
  have x0 : g1[h.size]? = some (.cells (chanC v sent top sb).toArray 39) := b1.get (by simp) get_push_last
  have hB1 : Bel h.size h g1 := (Bel.push (Nat.le_refl _) _).trans (b1.mono (by simp))
  have z0 := lt_of_get x0
  have hD11 := chanC_length (.slice p2 kl.length c2) sent top sb hsb
  have tkD := take_len hD11
  have oD := chanC_one (p := p2) (n := kl.length) (c := c2) sent top sb
  have lpD : ∀ v, lput [v, .int .i64 0, .int .i64 0, .bool false, .bool false, .bool false, .bool false, .bool false, .bool false, .bool false, .bool false] 0 (chanC (.slice p2 kl.length c2) sent top sb) = chanC (.slice p2 kl.length c2) sent top sb := fun v => lput_full hD11
  simp (config := {maxSteps := 2000000, implicitDefEqProofs := false}) only [go_sem, ↓reduceIte, Nat.reduceEqDiff, Nat.reduceAdd, Nat.reduceMul, Nat.reduceLeDiff, Nat.reduceLT, Nat.reduceSub, IntWalk.iteOmega, IntWalk.toNatUp, reduceCtorEq, false_and, and_false, false_or, or_false, true_or, or_true, not_true_eq_false, not_false_eq_true, Bool.not_true, Bool.not_false, Bool.and_true, Bool.true_and, Bool.and_false, Bool.false_and, Bool.not_eq_true, beq_self_eq_true, Nat.add_zero, Int.reduceLE, Int.reduceLT, Int.reduceToNat, Int.reduceNeg, hD11, tkD, oD, lpD]
  have x5 : (g1.push (.cells (chanC (.slice p2 kl.length c2) sent top sb).toArray 39))[g1.size]? = some (.cells (chanC (.slice p2 kl.length c2) sent top sb).toArray 39) := get_push_last
  have x0p : (g1.push (.cells (chanC (.slice p2 kl.length c2) sent top sb).toArray 39))[h.size]? = some (.cells (chanC v sent top sb).toArray 39) := by rw [get_push_ne z0]; exact x0
  have hBp : Bel h.size h (g1.push (.cells (chanC (.slice p2 kl.length c2) sent top sb).toArray 39)) := hB1.addP hB1.size _
  have o1p := o1.push (.cells (chanC (.slice p2 kl.length c2) sent top sb).toArray 39)
  have zp : (g1.push (.cells (chanC (.slice p2 kl.length c2) sent top sb).toArray 39)).size = g1.size + 1 := by simp
  have rp := rd_last x5 hD11
  obtain ⟨g2, hg2⟩ : ∃ g2, g2 = g1.push (.cells (chanC (.slice p2 kl.length c2) sent top sb).toArray 39) := ⟨_, rfl⟩
  rw [← hg2] at x5 x0p hBp o1p zp rp ⊢
  clear hg2
  obtain ⟨E, hE⟩ : ∃ E, E = takeErr kl sent top sb d := ⟨_, rfl⟩
  obtain ⟨S, hS⟩ : ∃ S : Int, S = if E = 0 then sent else 0 := ⟨_, rfl⟩
  obtain ⟨TP, hTP⟩ : ∃ TP : Int, TP = if E = 0 then max top (rec4 d + 1) else 0 := ⟨_, rfl⟩
  obtain ⟨SS, hSS⟩ : ∃ SS : List Bool, SS = if E = 0 then seenT top sb (rec4 d) else noSeen := ⟨_, rfl⟩
  obtain ⟨KL, hKL⟩ : ∃ KL : List Nat, KL = if E = 0 then kl else [] := ⟨_, rfl⟩
  obtain ⟨RC, hRC⟩ : ∃ RC : List Nat, RC = if E = 0 then takeS kl d else [] := ⟨_, rfl⟩
  have hS8 : SS.length = 8 := by
    rw [hSS]
    split
    · first | exact hsb | exact seenOf_length _ _
    · rfl
  refine VS.mono (N := fun F g => F 1 = u ∧ F 2 = .pointer (some ⟨h.size, 0, none⟩) ∧ F 5 = .pointer (some ⟨g1.size, 0, none⟩) ∧ Bel (g1.size + 1) g2 g ∧ ∃ (b6 : Nat) (p4 : Option Addr) (c4 : Nat) (w4 : Value), F 6 = .pointer (some ⟨b6, 0, none⟩) ∧ F 7 = w4 ∧ F 8 = .int .i64 E ∧ g[b6]? = some (.cells (chanC (.slice p4 KL.length c4) S TP SS).toArray 39) ∧ OBs (g1.size + 1) 5 g (.slice p4 KL.length c4) KL ∧ OBs (g1.size + 1) 5 g w4 RC) ?_ ?_ (fun _ _ _ h => h) (fun _ _ h => h)
  · refine VS.w (g1.size + 1) [] (.q 0 (.q 1 (.or 2 (.or 3 (.q 4 (.q 5 (.q 6 (.q 7 (.s 8 (.s 9 (.q 10 (.q 11 .nil)))))))) (.s 8 (.s 3 (.q 4 (.q 5 (.q 6 (.q 7 (.s 9 (.q 10 (.q 11 .nil)))))))))) (.s 8 (.s 2 (.s 3 (.q 4 (.q 5 (.q 6 (.q 7 (.s 9 (.q 10 (.q 11 .nil))))))))))))) mixed (by kernel_rfl) ?_
    have bo : ∀ o, Bel (g1.size + 1) g2 (g2.push o) = True := fun o => eq_true (Bel.push (by omega) _)
    have gz : ∀ o, (g2.push o).size = g1.size + 2 := fun o => by rw [Array.size_push, zp]
    simp (config := {maxSteps := 2000000, implicitDefEqProofs := false}) only [go_sem, ↓reduceIte, Nat.reduceEqDiff, Nat.reduceAdd, Nat.reduceMul, Nat.reduceLeDiff, Nat.reduceLT, Nat.reduceSub, IntWalk.iteOmega, IntWalk.toNatUp, reduceCtorEq, false_and, and_false, false_or, or_false, true_or, or_true, not_true_eq_false, not_false_eq_true, Bool.not_true, Bool.not_false, Bool.and_true, Bool.true_and, Bool.and_false, Bool.false_and, Bool.not_eq_true, beq_self_eq_true, Nat.add_zero, Int.reduceLE, Int.reduceLT, Int.reduceToNat, Int.reduceNeg, rp, bo]
    refine ⟨?_, ?_⟩
    · refine (octets_ok T _ _ _ (sd.bel hBp) hd).use ?_
      rintro v3 g3 ⟨o3, b3⟩
      have z3 := b3.size
      have b3T := eq_true (b3.mono (show g1.size + 1 ≤ _ by omega))
      have bpT0 : ∀ o, Bel (g1.size + 1) g2 (g3.push o) = True := fun o => eq_true ((b3.mono (by omega)).addP (by omega) _)
      simp (config := {maxSteps := 2000000, implicitDefEqProofs := false}) only [go_sem, ↓reduceIte, Nat.reduceEqDiff, Nat.reduceAdd, Nat.reduceMul, Nat.reduceLeDiff, Nat.reduceLT, Nat.reduceSub, IntWalk.iteOmega, IntWalk.toNatUp, reduceCtorEq, false_and, and_false, false_or, or_false, true_or, or_true, not_true_eq_false, not_false_eq_true, Bool.not_true, Bool.not_false, Bool.and_true, Bool.true_and, Bool.and_false, Bool.false_and, Bool.not_eq_true, beq_self_eq_true, Nat.add_zero, Int.reduceLE, Int.reduceLT, Int.reduceToNat, Int.reduceNeg, b3T, bpT0]
      refine ⟨?_, ?_⟩
      · refine (lineTake_ok T _ _ _ kl d sent top sb hsb (o1p.bs.bel b3) o3.bs o1.cap o3.cap).use ?_
        rintro _ g4 ⟨⟨cw, w4, rfl, ⟨k4, rfl, o4⟩, r4⟩, b4⟩
        have z4 := b4.size
        rw [← hE] at o4 r4 ⊢
        rw [← hKL] at o4
        rw [← hS, ← hTP, ← hSS]
        rw [← hRC] at r4
        obtain ⟨p4, c4, rfl, _⟩ := o4.open
        have b34 : Bel g2.size g2 g4 := b3.trans (b4.mono z3)
        have b34T : Bel (g1.size + 1) g2 g4 = True := eq_true (b34.mono (by omega))
        have hF11 := chanC_length (.slice p4 KL.length c4) S TP SS hS8
        have tkF := take_len hF11
        have oF := chanC_one (p := p4) (n := KL.length) (c := c4) S TP SS
        have lpF : ∀ v, lput [v, .int .i64 0, .int .i64 0, .bool false, .bool false, .bool false, .bool false, .bool false, .bool false, .bool false, .bool false] 0 (chanC (.slice p4 KL.length c4) S TP SS) = chanC (.slice p4 KL.length c4) S TP SS := fun v => lput_full hF11
        have bpT1 : ∀ o, Bel (g1.size + 1) g2 (g4.push o) = True := fun o => eq_true ((b34.mono (by omega)).addP (by omega) _)
        simp (config := {maxSteps := 2000000, implicitDefEqProofs := false}) only [go_sem, ↓reduceIte, Nat.reduceEqDiff, Nat.reduceAdd, Nat.reduceMul, Nat.reduceLeDiff, Nat.reduceLT, Nat.reduceSub, IntWalk.iteOmega, IntWalk.toNatUp, reduceCtorEq, false_and, and_false, false_or, or_false, true_or, or_true, not_true_eq_false, not_false_eq_true, Bool.not_true, Bool.not_false, Bool.and_true, Bool.true_and, Bool.and_false, Bool.false_and, Bool.not_eq_true, beq_self_eq_true, Nat.add_zero, Int.reduceLE, Int.reduceLT, Int.reduceToNat, Int.reduceNeg, b34T, hF11, tkF, oF, lpF, bpT1]
        exact ⟨_, p4, c4, _, rfl, rfl, get_push_last, (o4.push _).mono (by omega), (r4.push _).mono (by omega)⟩
      · have bg3 : ∀ o, Bel g3.size g3 (g3.push o) := fun o => Bel.push (Nat.le_refl _) _
        have HP := fun o => lineTake_ok T (g3.push o) _ _ kl d sent top sb hsb ((o1p.bs.bel b3).bel (bg3 o)) (o3.bs.bel (bg3 o)) o1.cap o3.cap
        refine (HP _).use ?_
        rintro _ g4 ⟨⟨cw, w4, rfl, ⟨k4, rfl, o4⟩, r4⟩, b4⟩
        have z4 := b4.size
        simp only [Array.size_push] at z4 o4 r4 b4
        have x6 := b4.get (k := g3.size) (by omega) get_push_last
        rw [← hE] at o4 r4 ⊢
        rw [← hKL] at o4
        rw [← hS, ← hTP, ← hSS]
        rw [← hRC] at r4
        obtain ⟨p4, c4, rfl, _⟩ := o4.open
        have b34 : Bel (g1.size + 1) g2 g4 := ((b3.mono (by omega)).addP (by omega) _).trans (b4.mono (by omega))
        have b34T : Bel (g1.size + 1) g2 g4 = True := eq_true b34
        have hF11 := chanC_length (.slice p4 KL.length c4) S TP SS hS8
        have oF := chanC_one (p := p4) (n := KL.length) (c := c4) S TP SS
        have wF := wrZ x6 hF11 oF
        have bpT1 : ∀ o, Bel (g1.size + 1) g2 (g4.setIfInBounds g3.size o) = True := fun o => eq_true (b34.addSet (by omega) _)
        simp (config := {maxSteps := 2000000, implicitDefEqProofs := false}) only [go_sem, ↓reduceIte, Nat.reduceEqDiff, Nat.reduceAdd, Nat.reduceMul, Nat.reduceLeDiff, Nat.reduceLT, Nat.reduceSub, IntWalk.iteOmega, IntWalk.toNatUp, reduceCtorEq, false_and, and_false, false_or, or_false, true_or, or_true, not_true_eq_false, not_false_eq_true, Bool.not_true, Bool.not_false, Bool.and_true, Bool.true_and, Bool.and_false, Bool.false_and, Bool.not_eq_true, beq_self_eq_true, Nat.add_zero, Int.reduceLE, Int.reduceLT, Int.reduceToNat, Int.reduceNeg, b34T, hF11, oF, wF, bpT1]
        exact ⟨_, p4, c4, _, rfl, rfl, cells_new x6, (o4.setLow (by omega) _).mono (by omega), (r4.setLow (by omega) _).mono (by omega)⟩
    · have bg2 : ∀ o, Bel g2.size g2 (g2.push o) := fun o => Bel.push (Nat.le_refl _) _
      have HO := fun o => octets_ok T (g2.push o) _ _ ((sd.bel hBp).bel (bg2 o)) hd
      refine (HO _).use ?_
      rintro v3 g3 ⟨o3, b3⟩
      have z3 := b3.size
      simp only [Array.size_push] at z3 o3 b3
      have b23 := (bg2 (.cells #[.slice none 0 0, .int .i64 0, .int .i64 0, .bool false, .bool false, .bool false, .bool false, .bool false, .bool false, .bool false, .bool false] 39)).trans (b3.mono (by omega))
      have b3T := eq_true (b23.mono (show g1.size + 1 ≤ _ by omega))
      have x6 := b3.get (k := g2.size) (by omega) get_push_last
      simp (config := {maxSteps := 2000000, implicitDefEqProofs := false}) only [go_sem, ↓reduceIte, Nat.reduceEqDiff, Nat.reduceAdd, Nat.reduceMul, Nat.reduceLeDiff, Nat.reduceLT, Nat.reduceSub, IntWalk.iteOmega, IntWalk.toNatUp, reduceCtorEq, false_and, and_false, false_or, or_false, true_or, or_true, not_true_eq_false, not_false_eq_true, Bool.not_true, Bool.not_false, Bool.and_true, Bool.true_and, Bool.and_false, Bool.false_and, Bool.not_eq_true, beq_self_eq_true, Nat.add_zero, Int.reduceLE, Int.reduceLT, Int.reduceToNat, Int.reduceNeg, b3T]
      refine (lineTake_ok T _ _ _ kl d sent top sb hsb (o1p.bs.bel b23) o3.bs o1.cap o3.cap).use ?_
      rintro _ g4 ⟨⟨cw, w4, rfl, ⟨k4, rfl, o4⟩, r4⟩, b4⟩
      have z4 := b4.size
      have x6 := b4.get (k := g2.size) (by omega) x6
      rw [← hE] at o4 r4 ⊢
      rw [← hKL] at o4
      rw [← hS, ← hTP, ← hSS]
      rw [← hRC] at r4
      obtain ⟨p4, c4, rfl, _⟩ := o4.open
      have b34 : Bel (g1.size + 1) g2 g4 := (b23.mono (by omega)).trans (b4.mono (by omega))
      have b34T : Bel (g1.size + 1) g2 g4 = True := eq_true b34
      have hF11 := chanC_length (.slice p4 KL.length c4) S TP SS hS8
      have oF := chanC_one (p := p4) (n := KL.length) (c := c4) S TP SS
      have wF := wrZ x6 hF11 oF
      have bpT1 : ∀ o, Bel (g1.size + 1) g2 (g4.setIfInBounds g2.size o) = True := fun o => eq_true (b34.addSet (by omega) _)
      simp (config := {maxSteps := 2000000, implicitDefEqProofs := false}) only [go_sem, ↓reduceIte, Nat.reduceEqDiff, Nat.reduceAdd, Nat.reduceMul, Nat.reduceLeDiff, Nat.reduceLT, Nat.reduceSub, IntWalk.iteOmega, IntWalk.toNatUp, reduceCtorEq, false_and, and_false, false_or, or_false, true_or, or_true, not_true_eq_false, not_false_eq_true, Bool.not_true, Bool.not_false, Bool.and_true, Bool.true_and, Bool.and_false, Bool.false_and, Bool.not_eq_true, beq_self_eq_true, Nat.add_zero, Int.reduceLE, Int.reduceLT, Int.reduceToNat, Int.reduceNeg, b34T, hF11, oF, wF, bpT1]
      exact ⟨_, p4, c4, _, rfl, rfl, cells_new x6, (o4.setLow (by omega) _).mono (by omega), (r4.setLow (by omega) _).mono (by omega)⟩
  rintro F g4 ⟨f1, f2, f5, b24, b6, p4, c4, w4, f6, f7, f8, x6, o4, r4⟩
  have z4 := b24.size
  have x0q := b24.get (by omega) x0p
  have x5q := b24.get (by omega) x5
  have hB4 := hBp.trans (b24.mono (by have := hB1.size; omega))
  have hlb6 := lt_of_get x6
  have hF11 := chanC_length (.slice p4 KL.length c4) S TP SS hS8
  have tkF := take_len hF11
  have rC : rd g4 ⟨h.size, 0, none⟩ 11 = some (chanC v sent top sb) := rd_last x0q hC11
  simp (config := {maxSteps := 2000000, implicitDefEqProofs := false}) only [go_sem, ↓reduceIte, Nat.reduceEqDiff, Nat.reduceAdd, Nat.reduceMul, Nat.reduceLeDiff, Nat.reduceLT, Nat.reduceSub, IntWalk.iteOmega, IntWalk.toNatUp, reduceCtorEq, false_and, and_false, false_or, or_false, true_or, or_true, not_true_eq_false, not_false_eq_true, Bool.not_true, Bool.not_false, Bool.and_true, Bool.true_and, Bool.and_false, Bool.false_and, Bool.not_eq_true, beq_self_eq_true, Nat.add_zero, Int.reduceLE, Int.reduceLT, Int.reduceToNat, Int.reduceNeg, f1, f2, f5, f6, f7, f8, rC]
  refine (takenFrom_ok T _ _ _ kl d sent top sb hsb (s.bel hB4) (sd.bel hB4) cu hkl ⟨r1, r2⟩).use ?_
  rintro _ g6 ⟨⟨cx, w6, rfl, ⟨k6, rfl, o6⟩, r6⟩, b46⟩
  rw [← hE] at o6 r6 ⊢
  rw [← hKL] at o6
  rw [← hRC] at r6
  rw [← hS, ← hTP, ← hSS]
  obtain ⟨p6, c6, rfl, _⟩ := o6.open
  have z6 := b46.size
  have xF6 := b46.get hlb6 x6
  have x06 := b46.get (lt_of_get x0q) x0q
  have x56 := b46.get (lt_of_get x5q) x5q
  have hB6 := hB4.trans (b46.mono hB4.size)
  have hG11 := chanC_length (.slice p6 KL.length c6) S TP SS hS8
  have tkG := take_len hG11
  have oG := chanC_one (p := p6) (n := KL.length) (c := c6) S TP SS
  have lpG : ∀ v, lput [v, .int .i64 0, .int .i64 0, .bool false, .bool false, .bool false, .bool false, .bool false, .bool false, .bool false, .bool false] 0 (chanC (.slice p6 KL.length c6) S TP SS) = chanC (.slice p6 KL.length c6) S TP SS := fun v => lput_full hG11
  have b67 : Bel g6.size g6 (g6.push (.cells (chanC (.slice p6 KL.length c6) S TP SS).toArray 39)) := Bel.push (Nat.le_refl _) _
  have rF7 : rd (g6.push (.cells (chanC (.slice p6 KL.length c6) S TP SS).toArray 39)) ⟨b6, 0, none⟩ 11 = some (chanC (.slice p4 KL.length c4) S TP SS) := rd_last (b67.get (lt_of_get xF6) xF6) hF11
  have hlF6 := lt_of_get xF6
  simp (config := {maxSteps := 2000000, implicitDefEqProofs := false}) only [go_sem, ↓reduceIte, Nat.reduceEqDiff, Nat.reduceAdd, Nat.reduceMul, Nat.reduceLeDiff, Nat.reduceLT, Nat.reduceSub, IntWalk.iteOmega, IntWalk.toNatUp, reduceCtorEq, false_and, and_false, false_or, or_false, true_or, or_true, not_true_eq_false, not_false_eq_true, Bool.not_true, Bool.not_false, Bool.and_true, Bool.true_and, Bool.and_false, Bool.false_and, Bool.not_eq_true, beq_self_eq_true, Nat.add_zero, Int.reduceLE, Int.reduceLT, Int.reduceToNat, Int.reduceNeg, f1, f2, f5, f6, f7, f8, hG11, tkG, oG, lpG, rF7]
  have b47 : Bel g4.size g4 (g6.push (.cells (chanC (.slice p6 KL.length c6) S TP SS).toArray 39)) := b46.trans (b67.mono (by omega))
  refine (sameChannel_ok T _ _ _ KL KL S TP S TP SS SS hS8 hS8 (o4.bs.bel b47) (o6.bs.bel b67)).use ?_
  rintro _ g8 ⟨rfl, b8⟩
  have hdt : decide (KL = KL ∧ S = S ∧ TP = TP ∧ SS = SS) = true := decide_eq_true ⟨rfl, rfl, rfl, rfl⟩
  simp (config := {maxSteps := 2000000, implicitDefEqProofs := false}) only [go_sem, ↓reduceIte, Nat.reduceEqDiff, Nat.reduceAdd, Nat.reduceMul, Nat.reduceLeDiff, Nat.reduceLT, Nat.reduceSub, IntWalk.iteOmega, IntWalk.toNatUp, reduceCtorEq, false_and, and_false, false_or, or_false, true_or, or_true, not_true_eq_false, not_false_eq_true, Bool.not_true, Bool.not_false, Bool.and_true, Bool.true_and, Bool.and_false, Bool.false_and, Bool.not_eq_true, beq_self_eq_true, Nat.add_zero, Int.reduceLE, Int.reduceLT, Int.reduceToNat, Int.reduceNeg, f1, f2, f5, f6, f7, f8, hdt]
  have b68 : Bel g6.size g6 g8 := b67.trans (b8.mono (by simp))
  have b48 : Bel g4.size g4 g8 := b47.trans (b8.mono b47.size)
  refine (sameBytes_ok T _ _ _ RC RC (r4.bs.bel b48) (r6.bs.bel b68)).pure ?_
  have r08 : rd g8 ⟨h.size, 0, none⟩ 11 = some (chanC v sent top sb) := rd_last (b68.get (lt_of_get x06) x06) hC11
  have r58 : rd g8 ⟨g1.size, 0, none⟩ 11 = some (chanC (.slice p2 kl.length c2) sent top sb) := rd_last (b68.get (lt_of_get x56) x56) hD11
  simp (config := {maxSteps := 2000000, implicitDefEqProofs := false}) only [go_sem, ↓reduceIte, Nat.reduceEqDiff, Nat.reduceAdd, Nat.reduceMul, Nat.reduceLeDiff, Nat.reduceLT, Nat.reduceSub, IntWalk.iteOmega, IntWalk.toNatUp, reduceCtorEq, false_and, and_false, false_or, or_false, true_or, or_true, not_true_eq_false, not_false_eq_true, Bool.not_true, Bool.not_false, Bool.and_true, Bool.true_and, Bool.and_false, Bool.false_and, Bool.not_eq_true, beq_self_eq_true, Nat.add_zero, Int.reduceLE, Int.reduceLT, Int.reduceToNat, Int.reduceNeg, f1, f2, f5, f6, f7, f8, r08, r58]
  have o1q := (o1p.bel (b24.mono (Nat.le_refl _)) (by omega)).bs.bel b48
  refine (sameChannel_ok T _ _ _ kl kl sent top sent top sb sb hsb hsb o1q (s.bel ((hB6.trans (b68.mono hB6.size))))).use ?_
  rintro _ g9 ⟨rfl, b9⟩
  have hdt2 : decide (kl = kl ∧ sent = sent ∧ top = top ∧ sb = sb) = true := decide_eq_true ⟨rfl, rfl, rfl, rfl⟩
  simp (config := {maxSteps := 2000000, implicitDefEqProofs := false}) only [go_sem, ↓reduceIte, Nat.reduceEqDiff, Nat.reduceAdd, Nat.reduceMul, Nat.reduceLeDiff, Nat.reduceLT, Nat.reduceSub, IntWalk.iteOmega, IntWalk.toNatUp, reduceCtorEq, false_and, and_false, false_or, or_false, true_or, or_true, not_true_eq_false, not_false_eq_true, Bool.not_true, Bool.not_false, Bool.and_true, Bool.true_and, Bool.and_false, Bool.false_and, Bool.not_eq_true, beq_self_eq_true, Nat.add_zero, Int.reduceLE, Int.reduceLT, Int.reduceToNat, Int.reduceNeg, hdt2]
  exact (hB6.trans (b68.mono hB6.size)).trans (b9.mono (by have := hB6.size; have := b68.size; omega))
theorem lineTakes_lifted (os : Os) (started : os.Started) (H : Type) (enc : TypeId × Value → H) :
    ReturnsInHanded {} Try.checked os 28 .any (Rows.lineTakesSpec.pre6 enc Try.prog Try.f28 Rows.lineTakesRow.domain false) (Rows.lineTakesSpec.post enc Try.prog Try.f28 false true false false) :=
  law_lifted (C := Try.checked) ownKnobT started (by kernel_rfl) Try.func28
    (ChangeSpec.witness6 (enc := enc) (C := Try.checked) false ⟨#[], #[.agg (Value.slice none 0 0 :: rep 2 [Value.int .i64 0] ++ rep 8 [Value.bool false]).toArray, .slice none 0 0], []⟩ 12 (by kernel_rfl) (by kernel_rfl) (by kernel_rfl) (by kernel_rfl))
    laidOutT (by kernel_rfl) (by kernel_rfl) (tb := 4) rfl Try.underlying4 rfl (fun ds hd => by
      have hl : ds.length = 2 := hd
      match ds, hl with
      | [d0, d1], _ => rfl) lineTakes_ok
theorem lineTakes_holds : Rows.LineTakesSaid :=
  OpenClaim.holds_of_wide 28 Try.f28 rfl rfl rfl rfl rfl rfl rfl ⟨rfl, rfl, rfl, rfl, rfl⟩ rfl rfl rfl rfl rfl (by kernel_rfl) Try.func28 (show joinedFacts Try.prog 28 Try.f28 Rows.lineTakesSpec Rows.lineTakesRow = true by unfold joinedFacts; rw [makeT, enterT, liftsT]; kernel_rfl)
    (of_decide_eq_true (by kernel_rfl)) (by unfold Func.isWrapper; rw [if_neg (of_decide_eq_false (by kernel_rfl))]; exact ⟨rfl, rfl⟩)
    (fun os started H enc _ => lineTakes_lifted os started H enc)
end Go.Proofs.Ytjgbajgmndkfjaa
