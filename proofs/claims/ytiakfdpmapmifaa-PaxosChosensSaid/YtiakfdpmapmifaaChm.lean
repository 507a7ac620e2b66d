/- A slice of acceptors, and its copy; no condition but those in the statements. -/
import Derived.Test.YtiakfdpmapmifaaChp
namespace Go.Proofs.Ytiakfdpmapmifaa
open Go Go.V
set_option linter.unusedSimpArgs false
set_option linter.unusedVariables false
set_option maxRecDepth 100000
def accP (x : Bal × Value) : List Value := accC x.1 x.2
/-- A slice of acceptors. -/
def Acs (h : Hp) (v : Value) (LL : List Acr) : Prop := ∃ ps : List (Bal × Value), ps.length = LL.length ∧ Ts accP 3 h v ps ∧ ∀ j (hj : j < ps.length) (hj' : j < LL.length), ps[j].1 = LL[j].1 ∧ Ts voteC 8 h ps[j].2 LL[j].2 ∧ LL[j].2.length ≤ 2199023255552
theorem Acs.bel {h h' : Hp} {v : Value} {LL : List Acr} (s : Acs h v LL) (a : Bel h.size h h') : Acs h' v LL := by
  obtain ⟨ps, h1, h2, h3⟩ := s
  exact ⟨ps, h1, h2.bel a, fun j hj hj' => ⟨(h3 j hj hj').1, (h3 j hj hj').2.1.bel a, (h3 j hj hj').2.2⟩⟩
theorem Acs.open {h : Hp} {v : Value} {LL : List Acr} (s : Acs h v LL) : ∃ p c, v = .slice p LL.length c ∧ (LL ≠ [] → ∃ b o, p = some ⟨b, o, none⟩ ∧ b < h.size ∧ ∀ i (hi : i < LL.length), ∃ w, rd h ⟨b, o + i * 3, none⟩ 3 = some (accC LL[i].1 w) ∧ hc h ⟨b, o + i * 3 + 2, none⟩ = some w ∧ Ts voteC 8 h w LL[i].2 ∧ LL[i].2.length ≤ 2199023255552) := by
  obtain ⟨ps, h1, h2, h3⟩ := s
  obtain ⟨p, c, hv, hc1⟩ := Ts.open (enc := accP) (n := 3) (fun _ => rfl) (by decide) h2
  refine ⟨p, c, by rw [hv, h1], fun hne => ?_⟩
  have hne' : ps ≠ [] := by
    intro e
    rw [e] at h1
    exact hne (List.eq_nil_of_length_eq_zero h1.symm)
  obtain ⟨b, o, hp, hb, hcs⟩ := hc1 hne'
  refine ⟨b, o, hp, hb, fun i hi => ?_⟩
  have hi' : i < ps.length := by omega
  obtain ⟨e1, e2, e3⟩ := h3 i hi' hi
  refine ⟨ps[i].2, ?_, (hcs i hi').hc (i := 2) rfl, e2, e3⟩
  have := (hcs i hi').rd (by simp [accP, accC]) rfl
  rw [← e1]
  exact this
set_option maxHeartbeats 1000000 in
theorem manyAcceptors_ok (T : World) (h : Hp) (u : Value) (LL : List Acr) (s : Acs h u LL) (hL : LL.length * 40 ≤ 140737488355328) :
    CallsH Try.prog T 8 #[u] h fun v' h' => Acs h' v' LL ∧ Bel h.size h h' := by
  obtain ⟨p, c, rfl, hcs⟩ := s.open
  refine CallsH.of_code' (args := [_]) Try.func8 rfl rfl rfl rfl ?_
  simp (config := {maxSteps := 2000000, implicitDefEqProofs := false}) only [go_sem, ↓reduceIte, Nat.reduceEqDiff, Nat.reduceAdd, Nat.reduceMul, Nat.reduceLeDiff, Nat.reduceLT, Nat.reduceSub, IntWalk.iteOmega, IntWalk.toNatUp, reduceCtorEq, false_and, and_false, false_or, or_false, true_or, or_true, not_true_eq_false, not_false_eq_true, Bool.not_true, Bool.not_false, Bool.and_true, Bool.true_and, Bool.and_false, Bool.false_and, Bool.not_eq_true, beq_self_eq_true, Nat.add_zero, Int.reduceLE, Int.reduceLT, Int.reduceToNat, Int.reduceNeg]
  refine VS.loop' (fun F g => F 0 = .slice p LL.length c ∧ Bel h.size h g ∧ ∃ (i : Nat) (ps : List (Bal × Value)), i ≤ LL.length ∧ F 4 = .int .i64 i ∧ ps.length = i ∧ Own h.size 41 3 g (F 3) i (encs accP ps) ∧ ∀ j (hj : j < LL.length) (hj' : j < ps.length), ps[j].1 = LL[j].1 ∧ Ots h.size 43 voteC 8 g ps[j].2 LL[j].2 ∧ LL[j].2.length ≤ 2199023255552 ∧ ∀ b, blkOf ps[j].2 = some b → blkOf (F 3) ≠ some b)
    (fun F _ => LL.length - (vi (F 4)).toNat) rfl ⟨rfl, Bel.refl _ _, 0, [], by omega, rfl, rfl, Own.nil _ _ _ _, fun j hj hj' => by simp at hj'⟩ ?_
  rintro F g ⟨f0, hg, i, ps, hi, f4, hps, ho, hall⟩
  have hgs := hg.size
  by_cases hlt : i < LL.length
  · have hlt' : (i : Int) < LL.length := by omega
    obtain ⟨bb, oo, rfl, hbb, hcs⟩ := hcs (by intro e; rw [e] at hlt; simp at hlt)
    obtain ⟨w, hw, _, tw, hwl⟩ := hcs i hlt
    have hw' : rd g ⟨bb, oo + i * 3, none⟩ 3 = some (accC LL[i].1 w) := by rw [rd_bel hg (by exact hbb)]; exact hw
    obtain ⟨pw, cw, rfl, _⟩ := votes_open tw
    unfold accC at hw'
    simp (config := {maxSteps := 2000000, implicitDefEqProofs := false}) only [go_sem, ↓reduceIte, Nat.reduceEqDiff, Nat.reduceAdd, Nat.reduceMul, Nat.reduceLeDiff, Nat.reduceLT, Nat.reduceSub, IntWalk.iteOmega, IntWalk.toNatUp, reduceCtorEq, false_and, and_false, false_or, or_false, true_or, or_true, not_true_eq_false, not_false_eq_true, Bool.not_true, Bool.not_false, Bool.and_true, Bool.true_and, Bool.and_false, Bool.false_and, Bool.not_eq_true, beq_self_eq_true, Nat.add_zero, Int.reduceLE, Int.reduceLT, Int.reduceToNat, Int.reduceNeg, f0, f4, hlt', Int.toNat_natCast, hw']
    refine (acceptors_ok T _ LL[i].1 _ LL[i].2 (tw.bel hg) hwl).use ?_
    rintro _ g1 ⟨⟨w1, rfl, o1⟩, b1⟩
    have z1 := b1.size
    obtain ⟨p1, c1, rfl, _⟩ := o1.open
    have hlto := ho.lt
    have hlt1 := o1.own.lt
    have hbk1 := o1.own.blk
    have ho1 := ho.bel b1 (Nat.le_refl _)
    unfold accC
    simp (config := {maxSteps := 2000000, implicitDefEqProofs := false}) only [go_sem, ↓reduceIte, Nat.reduceEqDiff, Nat.reduceAdd, Nat.reduceMul, Nat.reduceLeDiff, Nat.reduceLT, Nat.reduceSub, IntWalk.iteOmega, IntWalk.toNatUp, reduceCtorEq, false_and, and_false, false_or, or_false, true_or, or_true, not_true_eq_false, not_false_eq_true, Bool.not_true, Bool.not_false, Bool.and_true, Bool.true_and, Bool.and_false, Bool.false_and, Bool.not_eq_true, beq_self_eq_true, Nat.add_zero, Int.reduceLE, Int.reduceLT, Int.reduceToNat, Int.reduceNeg, f0, f4]
    obtain ⟨g2, hg2⟩ : ∃ g2 : Hp, g2 = g1.push (.cells [Value.int .i64 LL[i].1.r, .int .i64 LL[i].1.n, .slice p1 LL[i].2.length c1].toArray 41) := ⟨_, rfl⟩
    have b2 : Bel g1.size g1 g2 := by rw [hg2]; exact Bel.push (Nat.le_refl _) _
    have z2 : g2.size = g1.size + 1 := by rw [hg2]; simp
    have ho2 := ho1.bel b2 (Nat.le_refl _)
    have src : Sl 3 (g2.push (.cells [Value.int .i64 LL[i].1.r, .int .i64 LL[i].1.n, .slice p1 LL[i].2.length c1].toArray 41)) (.slice (some ⟨g2.size, 0, none⟩) 1 1) 1 [Value.int .i64 LL[i].1.r, .int .i64 LL[i].1.n, .slice p1 LL[i].2.length c1] := Sl.made (by simp) 1
    rw [z2] at src
    have eg2 : g1.push (.cells #[Value.int .i64 LL[i].1.r, .int .i64 LL[i].1.n, .slice p1 LL[i].2.length c1] 41) = g2 := hg2.symm
    rw [← hg2] at *
    clear hg2
    refine append_own2 (E := 41) (n := 3) (B := h.size) (bytes := 40) (m := i) (k := 1) (cs := encs accP ps) tsl22 Try.underlying22 tn41 tz41 rfl tb41 (ho2.push _) (by simp; omega) src rfl (by omega) (by omega) ?_
    intro v' h' ho' hbut hblk
    have hbel' : Bel h.size (g2.push (.cells [Value.int .i64 LL[i].1.r, .int .i64 LL[i].1.n, .slice p1 LL[i].2.length c1].toArray 41)) h' := hbut.bel (by simp; omega) (fun b hb => ho.blk b hb)
    have hfin : Bel h.size h h' := (hg.trans (b1.mono hgs)).trans ((b2.mono (by omega)).trans ((Bel.push (by omega) _).trans hbel'))
    simp (config := {maxSteps := 2000000, implicitDefEqProofs := false}) only [go_sem, ↓reduceIte, Nat.reduceEqDiff, Nat.reduceAdd, Nat.reduceMul, Nat.reduceLeDiff, Nat.reduceLT, Nat.reduceSub, IntWalk.iteOmega, IntWalk.toNatUp, reduceCtorEq, false_and, and_false, false_or, or_false, true_or, or_true, not_true_eq_false, not_false_eq_true, Bool.not_true, Bool.not_false, Bool.and_true, Bool.true_and, Bool.and_false, Bool.false_and, Bool.not_eq_true, beq_self_eq_true, Nat.add_zero, Int.reduceLE, Int.reduceLT, Int.reduceToNat, Int.reduceNeg, f0, f4]
    refine ⟨⟨f0, hfin, i + 1, ps ++ [(LL[i].1, Value.slice p1 LL[i].2.length c1)], hlt, rfl, by simp [hps], ?_, fun j hj hj' => ?_⟩, ?_⟩
    · have e : encs accP (ps ++ [(LL[i].1, Value.slice p1 LL[i].2.length c1)]) = encs accP ps ++ [Value.int .i64 LL[i].1.r, .int .i64 LL[i].1.n, .slice p1 LL[i].2.length c1] := by
        rw [encs_append]; simp [encs, accP, accC]
      rw [e]; exact ho'
    · by_cases e : j < ps.length
      · obtain ⟨k0, k1, k2, k3⟩ := hall j hj e
        have hl3 := k1.own.lt
        rw [List.getElem_append_left e]
        refine ⟨k0, ⟨((((k1.own.bel b1 (Nat.le_refl _)).bel b2 (Nat.le_refl _)).push _).but hbut (fun b hb e2 => k3 b hb e2))⟩, k2, fun b hb e2 => ?_⟩
        rcases hblk b e2 with hh | hh
        · exact k3 b hb hh
        · have := hl3 b hb
          simp only [Array.size_push] at hh
          omega
      · have hje : j = i := by simp at hj'; omega
        subst hje
        have eg : (ps ++ [(LL[j].1, Value.slice p1 LL[j].2.length c1)])[j] = (LL[j].1, Value.slice p1 LL[j].2.length c1) := by
          rw [List.getElem_append_right (by omega)]; simp [hps]
        rw [eg]
        refine ⟨rfl, ⟨(((o1.own.mono hgs).bel b2 (Nat.le_refl _)).push _).but hbut (fun b hb e2 => by have := hbk1 b hb; have := hlto b e2; omega)⟩, hwl, fun b hb e2 => ?_⟩
        rcases hblk b e2 with hh | hh
        · have := hbk1 b hb; have := hlto b hh; omega
        · have := hlt1 b hb
          simp only [Array.size_push] at hh
          omega
    · simp only [vi, updo_some, ↓reduceIte, f4]; omega
  · have hge : ¬ (i : Int) < LL.length := by omega
    obtain rfl : i = LL.length := by omega
    simp (config := {maxSteps := 2000000, implicitDefEqProofs := false}) only [go_sem, ↓reduceIte, Nat.reduceEqDiff, Nat.reduceAdd, Nat.reduceMul, Nat.reduceLeDiff, Nat.reduceLT, Nat.reduceSub, IntWalk.iteOmega, IntWalk.toNatUp, reduceCtorEq, false_and, and_false, false_or, or_false, true_or, or_true, not_true_eq_false, not_false_eq_true, Bool.not_true, Bool.not_false, Bool.and_true, Bool.true_and, Bool.and_false, Bool.false_and, Bool.not_eq_true, beq_self_eq_true, Nat.add_zero, Int.reduceLE, Int.reduceLT, Int.reduceToNat, Int.reduceNeg, f0, f4, hge]
    refine ⟨⟨ps, hps, ⟨by rw [hps]; exact ho.sl⟩, fun j hj hj' => ?_⟩, hg⟩
    obtain ⟨k0, k1, k2, _⟩ := hall j hj' hj
    exact ⟨k0, k1.ts, k2⟩
end Go.Proofs.Ytiakfdpmapmifaa
