/- What is chosen: what the document computes; no condition but those in the statements. -/
import Derived.Test.YtiakfdpmapmifaaCho
namespace Go.Proofs.Ytiakfdpmapmifaa
open Go Go.V
set_option linter.unusedSimpArgs false
set_option linter.unusedVariables false
set_option maxRecDepth 100000
theorem vote_cmd {h : Hp} {v : Value} {l : List Vt} (s : Ts voteC 8 h v l) : ∃ p cap, v = .slice p l.length cap ∧ (l ≠ [] → ∃ b o, p = some ⟨b, o, none⟩ ∧ b < h.size ∧ ∀ i (hi : i < l.length), rd h ⟨b, o + i * 8, none⟩ 8 = some (voteC l[i]) ∧ rd h ⟨b, o + i * 8 + 3, none⟩ 5 = some [.int .i64 l[i].k, .int .i64 l[i].c, .int .i64 l[i].s, .int .i64 l[i].nm, .int .i64 l[i].v]) := by
  obtain ⟨p, cap, hv, hc1⟩ := Ts.open (enc := voteC) (n := 8) (fun _ => rfl) (by decide) s
  refine ⟨p, cap, hv, fun hne => ?_⟩
  obtain ⟨b, o, hp, hb, hcs⟩ := hc1 hne
  refine ⟨b, o, hp, hb, fun i hi => ⟨(hcs i hi).rd (by simp [voteC]) rfl, ?_⟩⟩
  have hx := hcs i hi
  have sub : ∀ (k : Nat) (cs : List Value), (∀ j (hj : j < cs.length), k + j < (voteC l[i]).length ∧ (voteC l[i])[k + j]? = some cs[j]) → cellsAt h b (o + i * 8 + k) cs := by
    intro k cs hcs j hj
    obtain ⟨h1, h2⟩ := hcs j hj
    have h3 := hx (k + j) h1
    rw [List.getElem?_eq_getElem h1] at h2
    rw [Nat.add_assoc (o + i * 8), h3, ← h2]
  refine (sub 3 (cmdW l[i]) (fun j hj => ?_)).rd (by simp [cmdW]) rfl
  simp only [cmdW, List.length_cons, List.length_nil] at hj
  match j, hj with
  | 0, _ => exact ⟨by simp [voteC], rfl⟩
  | 1, _ => exact ⟨by simp [voteC], rfl⟩
  | 2, _ => exact ⟨by simp [voteC], rfl⟩
  | 3, _ => exact ⟨by simp [voteC], rfl⟩
  | 4, _ => exact ⟨by simp [voteC], rfl⟩
set_option maxHeartbeats 2000000 in
theorem chosenIn_ok (T : World) (h : Hp) (u : Value) (LL : List Acr) (slot : Int) (s : Acs h u LL) (hL : LL.length * 40 ≤ 140737488355328) :
    CallsH Try.prog T 9 #[u, .int .i64 slot] h fun v' h' => ChRes v' slot LL ∧ Bel h.size h h' := by
  obtain ⟨p, c, rfl, hcs⟩ := s.open
  have hce : chE slot LL = if slot < 0 ∨ 39 < slot ∨ LL.length < 1 ∨ 5 < LL.length then 2 else if LL.all okA = true then (if (win slot LL).isSome then 0 else 9) else 5 := rfl
  refine CallsH.of_code2 (args := [_, _]) Try.func9 rfl rfl rfl rfl ?_
  unfold ChRes
  have cv9 : ∀ e : Int, chE slot LL = e → e ≠ 0 → chV slot LL = vtN := by
    intro e he h0
    unfold chV
    rw [if_neg (by rw [he]; exact h0)]
  simp (config := {maxSteps := 2000000, implicitDefEqProofs := false}) only [go_sem, ↓reduceIte, Nat.reduceEqDiff, Nat.reduceAdd, Nat.reduceMul, Nat.reduceLeDiff, Nat.reduceLT, Nat.reduceSub, IntWalk.iteOmega, IntWalk.toNatUp, reduceCtorEq, false_and, and_false, false_or, or_false, true_or, or_true, not_true_eq_false, not_false_eq_true, Bool.not_true, Bool.not_false, Bool.and_true, Bool.true_and, Bool.and_false, Bool.false_and, Bool.not_eq_true, beq_self_eq_true, Nat.add_zero, Int.reduceLE, Int.reduceLT, Int.reduceToNat, Int.reduceNeg]
  refine (in_ok T _ _ _ _).pure ?_
  by_cases q1 : 0 ≤ slot ∧ slot ≤ 39
  · by_cases q3 : 1 ≤ LL.length ∧ LL.length ≤ 5
    · have q3' : 1 ≤ (LL.length : Int) ∧ (LL.length : Int) ≤ 5 := by omega
      have q3d : decide (1 ≤ (LL.length : Int) ∧ (LL.length : Int) ≤ 5) = true := decide_eq_true q3'
      have q1d : decide (0 ≤ slot ∧ slot ≤ 39) = true := decide_eq_true q1
      rw [if_neg (by omega)] at hce
      rw [q1d]
      simp (config := {maxSteps := 2000000, implicitDefEqProofs := false}) only [go_sem, ↓reduceIte, Nat.reduceEqDiff, Nat.reduceAdd, Nat.reduceMul, Nat.reduceLeDiff, Nat.reduceLT, Nat.reduceSub, IntWalk.iteOmega, IntWalk.toNatUp, reduceCtorEq, false_and, and_false, false_or, or_false, true_or, or_true, not_true_eq_false, not_false_eq_true, Bool.not_true, Bool.not_false, Bool.and_true, Bool.true_and, Bool.and_false, Bool.false_and, Bool.not_eq_true, beq_self_eq_true, Nat.add_zero, Int.reduceLE, Int.reduceLT, Int.reduceToNat, Int.reduceNeg]
      refine (in_ok T _ _ _ _).pure ?_
      rw [q3d]
      simp (config := {maxSteps := 2000000, implicitDefEqProofs := false}) only [go_sem, ↓reduceIte, Nat.reduceEqDiff, Nat.reduceAdd, Nat.reduceMul, Nat.reduceLeDiff, Nat.reduceLT, Nat.reduceSub, IntWalk.iteOmega, IntWalk.toNatUp, reduceCtorEq, false_and, and_false, false_or, or_false, true_or, or_true, not_true_eq_false, not_false_eq_true, Bool.not_true, Bool.not_false, Bool.and_true, Bool.true_and, Bool.and_false, Bool.false_and, Bool.not_eq_true, beq_self_eq_true, Nat.add_zero, Int.reduceLE, Int.reduceLT, Int.reduceToNat, Int.reduceNeg]
      obtain ⟨H, hH⟩ : ∃ H : Hp, H = h.push (.cells #[.int .i64 0, .int .i64 0, .int .i64 0, .int .i64 0, .int .i64 0] 24) := ⟨_, rfl⟩
      have HB : Bel h.size h H := by rw [hH]; exact (Bel.refl _ _).add _
      have HS : H.size = h.size + 1 := by rw [hH]; simp
      have HZ : H[h.size]? = some (.cells (cmdW vtN).toArray 24) := by rw [hH, get_push_last]; rfl
      rw [← hH]
      clear hH
      have wz : ∀ g : Hp, g[h.size]? = some (.cells (cmdW vtN).toArray 24) → ∀ w : List Value, w.length = 5 → w.all oneC = true → wr g ⟨h.size, 0, none⟩ w = some (g.setIfInBounds h.size (.cells w.toArray 24)) := by
        intro g hg w h5 h1
        rw [wr_get hg 0 w, lput_full (by rw [h5]; rfl), if_pos ⟨by rw [h5]; exact Nat.le_refl _, h1⟩]
      refine VS.loop' (fun F g => F 0 = .slice p LL.length c ∧ F 1 = .int .i64 slot ∧ F 4 = .pointer (some ⟨h.size, 0, none⟩) ∧ Bel h.size h g ∧ h.size < g.size ∧ g[h.size]? = some (.cells (cmdW vtN).toArray 24) ∧ ∃ i : Nat, i ≤ LL.length ∧ F 7 = .int .i64 i ∧ Ots (h.size + 1) 43 voteC 8 g (F 6) (allV slot (LL.take i)) ∧ (LL.take i).all okA = true)
        (fun F _ => LL.length - (vi (F 7)).toNat) rfl ⟨rfl, rfl, rfl, HB, by omega, HZ, 0, by omega, rfl, Ots.nil _ _ _ _ _, rfl⟩ ?_
      clear HB HZ HS H
      rintro F g ⟨f0, f1, f4, hg, hgz, gZ, i, hi, f7, own, hok⟩
      by_cases hlt : i < LL.length
      · have hlt' : (i : Int) < LL.length := by omega
        obtain ⟨bb, oo, rfl, hbb, hcs⟩ := hcs (by intro e; rw [e] at hlt; simp at hlt)
        obtain ⟨w, hw, hw2, tw, hwl⟩ := hcs i hlt
        have hw' : rd g ⟨bb, oo + i * 3, none⟩ 3 = some (accC LL[i].1 w) := by rw [rd_bel hg (by exact hbb)]; exact hw
        have hok' := all_take_snoc hlt
        have hal := allV_take slot hlt
        have hbad : okA LL[i] = false → LL.all okA = false := not_all hlt
        have hfew : okA LL[i] = true → (inSlot slot LL[i].2).length ≤ 1 := fun q => inSlot_one slot (accErr_srt (p := LL[i].1) (by simpa [okA] using q))
        have hokA : okA LL[i] = decide (accErr LL[i].1 LL[i].2 = 0) := rfl
        obtain ⟨L, hLi⟩ : ∃ L, L = LL[i].2 := ⟨_, rfl⟩
        obtain ⟨pb, hpb⟩ : ∃ pb, pb = LL[i].1 := ⟨_, rfl⟩
        rw [← hLi] at tw hwl hal hfew hokA
        rw [← hpb] at hw' hokA
        obtain ⟨pw, cw, rfl, hwc⟩ := votes_open tw
        unfold accC at hw'
        simp (config := {maxSteps := 2000000, implicitDefEqProofs := false}) only [go_sem, ↓reduceIte, Nat.reduceEqDiff, Nat.reduceAdd, Nat.reduceMul, Nat.reduceLeDiff, Nat.reduceLT, Nat.reduceSub, IntWalk.iteOmega, IntWalk.toNatUp, reduceCtorEq, false_and, and_false, false_or, or_false, true_or, or_true, not_true_eq_false, not_false_eq_true, Bool.not_true, Bool.not_false, Bool.and_true, Bool.true_and, Bool.and_false, Bool.false_and, Bool.not_eq_true, beq_self_eq_true, Nat.add_zero, Int.reduceLE, Int.reduceLT, Int.reduceToNat, Int.reduceNeg, f0, f1, f4, f7, hlt', Int.toNat_natCast, hw']
        have hgs := hg.size
        have hck := acceptorFault_ok T g pb (.slice pw L.length cw) L (tw.bel hg) (by omega)
        unfold accC at hck
        refine hck.use ?_
        rintro _ g1 ⟨rfl, b1⟩
        have hB1 := hg.trans (b1.mono hgs)
        have gZ1 := b1.get (lt_of_get gZ) gZ
        have zZ1 := lt_of_get gZ1
        have own1 := own.bel b1 (Nat.le_refl _)
        by_cases qe : accErr pb L = 0
        · rw [decide_eq_true qe] at hokA
          simp (config := {maxSteps := 2000000, implicitDefEqProofs := false}) only [go_sem, ↓reduceIte, Nat.reduceEqDiff, Nat.reduceAdd, Nat.reduceMul, Nat.reduceLeDiff, Nat.reduceLT, Nat.reduceSub, IntWalk.iteOmega, IntWalk.toNatUp, reduceCtorEq, false_and, and_false, false_or, or_false, true_or, or_true, not_true_eq_false, not_false_eq_true, Bool.not_true, Bool.not_false, Bool.and_true, Bool.true_and, Bool.and_false, Bool.false_and, Bool.not_eq_true, beq_self_eq_true, Nat.add_zero, Int.reduceLE, Int.reduceLT, Int.reduceToNat, Int.reduceNeg, f0, f1, f4, f7, qe]
          have hfew' := hfew hokA
          have hAll := allV_few slot hok
          rw [List.length_take] at hAll
          refine VS.loop' (fun F g' => F 0 = .slice (some ⟨bb, oo, none⟩) LL.length c ∧ F 1 = .int .i64 slot ∧ F 4 = .pointer (some ⟨h.size, 0, none⟩) ∧ F 7 = .int .i64 i ∧ Bel h.size h g' ∧ h.size < g'.size ∧ g'[h.size]? = some (.cells (cmdW vtN).toArray 24) ∧ ∃ j : Nat, j ≤ L.length ∧ F 9 = .int .i64 j ∧ Ots (h.size + 1) 43 voteC 8 g' (F 6) (allV slot (LL.take i) ++ inSlot slot (L.take j)))
            (fun F _ => L.length - (vi (F 9)).toNat) rfl ⟨f0, f1, f4, f7, hB1, zZ1, gZ1, 0, by omega, rfl, by rw [List.take_zero]; show Ots _ _ _ _ _ _ (_ ++ []); rw [List.append_nil]; exact own1⟩ ?_
          clear f0 f1 f4 f7 F own1 gZ1 hB1 b1 zZ1 g1 hck gZ own hw' hbad hgs hg hgz
          rintro F g2 ⟨f0, f1, f4, f7, hg, hgz, gZ, j, hj, f9, own⟩
          have hw2' : V.hc g2 ⟨bb, oo + i * 3 + 2, none⟩ = some (.slice pw L.length cw) := by rw [hg.hc (by exact hbb)]; exact hw2
          by_cases hlj : j < L.length
          · have hlj' : (j : Int) < L.length := by omega
            obtain ⟨b2, o2, rfl, hb2, hsl, hwc⟩ := hwc (by intro e; rw [e] at hlj; simp at hlj)
            have r1 : rd g2 ⟨b2, o2 + j * 8, none⟩ 8 = some (voteC L[j]) := by rw [rd_bel hg (by exact hb2)]; exact hwc j hlj
            have y1 : V.hc g2 ⟨b2, o2 + j * 8, none⟩ = some (.int .i64 L[j].slot) := by rw [hg.hc (by exact hb2)]; exact hsl j hlj
            have hsn := inSlot_take slot hlj
            have hsh := inSlot_le slot L j
            have hone := Ts.one (E := 43) (h := g2) (enc := voteC) (n := 8) L[j] (fun _ => rfl) 1
            obtain ⟨v, hv⟩ : ∃ v, v = L[j] := ⟨_, rfl⟩
            rw [← hv] at r1 y1 hsn hone
            unfold voteC at r1
            have hgs := hg.size
            by_cases c2 : v.slot = slot
            · rw [if_pos c2] at hsn
              subst c2
              simp (config := {maxSteps := 2000000, implicitDefEqProofs := false}) only [go_sem, ↓reduceIte, Nat.reduceEqDiff, Nat.reduceAdd, Nat.reduceMul, Nat.reduceLeDiff, Nat.reduceLT, Nat.reduceSub, IntWalk.iteOmega, IntWalk.toNatUp, reduceCtorEq, false_and, and_false, false_or, or_false, true_or, or_true, not_true_eq_false, not_false_eq_true, Bool.not_true, Bool.not_false, Bool.and_true, Bool.true_and, Bool.and_false, Bool.false_and, Bool.not_eq_true, beq_self_eq_true, Nat.add_zero, Int.reduceLE, Int.reduceLT, Int.reduceToNat, Int.reduceNeg, f0, f1, f4, f7, f9, Int.toNat_natCast, hlt', hw2', hlj', y1, r1]
              refine append_ts (E := 43) (B := h.size + 1) (n := 8) (bytes := 64) tsl39 Try.underlying39 tn43 tz43 rfl tb43 (fun _ => rfl) (own.push _) (by simp; omega) hone (by simp only [List.length_append, List.length_singleton]; omega) (by omega) ?_
              intro v' h' ho' hb' _
              have hBp := (hg.addP hgs (.cells (voteC v).toArray 43)).trans (hb'.mono (by omega))
              have gZ' := hb'.get (by omega) ((get_push_ne (o := .cells (voteC v).toArray 43) hgz).trans gZ)
              simp (config := {maxSteps := 2000000, implicitDefEqProofs := false}) only [go_sem, ↓reduceIte, Nat.reduceEqDiff, Nat.reduceAdd, Nat.reduceMul, Nat.reduceLeDiff, Nat.reduceLT, Nat.reduceSub, IntWalk.iteOmega, IntWalk.toNatUp, reduceCtorEq, false_and, and_false, false_or, or_false, true_or, or_true, not_true_eq_false, not_false_eq_true, Bool.not_true, Bool.not_false, Bool.and_true, Bool.true_and, Bool.and_false, Bool.false_and, Bool.not_eq_true, beq_self_eq_true, Nat.add_zero, Int.reduceLE, Int.reduceLT, Int.reduceToNat, Int.reduceNeg, f0, f1, f4, f7, f9]
              refine ⟨⟨f0, f1, f4, f7, hBp, lt_of_get gZ', gZ', j + 1, hlj, rfl, ?_⟩, ?_⟩
              · rw [hsn, ← List.append_assoc]; exact ho'
              · simp only [vi, updo_some, ↓reduceIte, f9]; omega
            · rw [if_neg c2, List.append_nil] at hsn
              simp (config := {maxSteps := 2000000, implicitDefEqProofs := false}) only [go_sem, ↓reduceIte, Nat.reduceEqDiff, Nat.reduceAdd, Nat.reduceMul, Nat.reduceLeDiff, Nat.reduceLT, Nat.reduceSub, IntWalk.iteOmega, IntWalk.toNatUp, reduceCtorEq, false_and, and_false, false_or, or_false, true_or, or_true, not_true_eq_false, not_false_eq_true, Bool.not_true, Bool.not_false, Bool.and_true, Bool.true_and, Bool.and_false, Bool.false_and, Bool.not_eq_true, beq_self_eq_true, Nat.add_zero, Int.reduceLE, Int.reduceLT, Int.reduceToNat, Int.reduceNeg, f0, f1, f4, f7, f9, Int.toNat_natCast, hlt', hw2', hlj', y1, c2]
              refine ⟨⟨f0, f1, f4, f7, hg, hgz, gZ, j + 1, hlj, rfl, ?_⟩, ?_⟩
              · rw [hsn]; exact own
              · simp only [vi, updo_some, ↓reduceIte, f9]; omega
          · have hge : ¬ (j : Int) < L.length := by omega
            obtain rfl : j = L.length := by omega
            rw [List.take_length] at own
            simp (config := {maxSteps := 2000000, implicitDefEqProofs := false}) only [go_sem, ↓reduceIte, Nat.reduceEqDiff, Nat.reduceAdd, Nat.reduceMul, Nat.reduceLeDiff, Nat.reduceLT, Nat.reduceSub, IntWalk.iteOmega, IntWalk.toNatUp, reduceCtorEq, false_and, and_false, false_or, or_false, true_or, or_true, not_true_eq_false, not_false_eq_true, Bool.not_true, Bool.not_false, Bool.and_true, Bool.true_and, Bool.and_false, Bool.false_and, Bool.not_eq_true, beq_self_eq_true, Nat.add_zero, Int.reduceLE, Int.reduceLT, Int.reduceToNat, Int.reduceNeg, f0, f1, f4, f7, f9, Int.toNat_natCast, hlt', hw2', hge]
            refine ⟨⟨f0, f1, f4, hg, hgz, gZ, i + 1, hlt, rfl, ?_, ?_⟩, ?_⟩
            · rw [hal]; exact own
            · rw [hok', hok, hokA]; rfl
            · simp only [vi, updo_some, ↓reduceIte, f7]; omega
        · have q5 : accErr pb L = 5 := (accErr_five pb L).resolve_left qe
          rw [decide_eq_false qe] at hokA
          rw [hbad hokA] at hce
          have hce : chE slot LL = 5 := hce
          have hcv := cv9 _ hce (by decide)
          have w2 := wz g1 gZ1 [.int .i64 0, .int .i64 0, .int .i64 0, .int .i64 0, .int .i64 0] rfl rfl
          simp (config := {maxSteps := 2000000, implicitDefEqProofs := false}) only [go_sem, ↓reduceIte, Nat.reduceEqDiff, Nat.reduceAdd, Nat.reduceMul, Nat.reduceLeDiff, Nat.reduceLT, Nat.reduceSub, IntWalk.iteOmega, IntWalk.toNatUp, reduceCtorEq, false_and, and_false, false_or, or_false, true_or, or_true, not_true_eq_false, not_false_eq_true, Bool.not_true, Bool.not_false, Bool.and_true, Bool.true_and, Bool.and_false, Bool.false_and, Bool.not_eq_true, beq_self_eq_true, Nat.add_zero, Int.reduceLE, Int.reduceLT, Int.reduceToNat, Int.reduceNeg, f0, f1, f4, f7, q5, w2, zZ1, hce, hcv]
          exact ⟨rfl, hB1.addSet (by omega) _⟩
      · have hge : ¬ (i : Int) < LL.length := by omega
        obtain rfl : i = LL.length := by omega
        rw [List.take_length] at own hok
        rw [hok] at hce
        have hfew := allV_few slot hok
        have hwin : ∀ v ∈ allV slot LL, LL.length < 2 * cnt v (allV slot LL) → win slot LL = some v := fun v hv hn => win_some hok hv hn
        have hnone : (∀ v ∈ allV slot LL, ¬ LL.length < 2 * cnt v (allV slot LL)) → win slot LL = none := win_none
        obtain ⟨A, hA⟩ : ∃ A, A = allV slot LL := ⟨_, rfl⟩
        rw [← hA] at own hfew hwin hnone
        obtain ⟨pa, ca, ha, hac⟩ := vote_cmd own.ts
        have zZ := lt_of_get gZ
        simp (config := {maxSteps := 2000000, implicitDefEqProofs := false}) only [go_sem, ↓reduceIte, Nat.reduceEqDiff, Nat.reduceAdd, Nat.reduceMul, Nat.reduceLeDiff, Nat.reduceLT, Nat.reduceSub, IntWalk.iteOmega, IntWalk.toNatUp, reduceCtorEq, false_and, and_false, false_or, or_false, true_or, or_true, not_true_eq_false, not_false_eq_true, Bool.not_true, Bool.not_false, Bool.and_true, Bool.true_and, Bool.and_false, Bool.false_and, Bool.not_eq_true, beq_self_eq_true, Nat.add_zero, Int.reduceLE, Int.reduceLT, Int.reduceToNat, Int.reduceNeg, f0, f1, f4, f7, hge]
        refine VS.loop' (fun F g' => g' = g ∧ F 0 = .slice p LL.length c ∧ F 4 = .pointer (some ⟨h.size, 0, none⟩) ∧ F 6 = .slice pa A.length ca ∧ ∃ i : Nat, i ≤ A.length ∧ F 10 = .int .i64 i ∧ ∀ k (hk : k < A.length), k < i → ¬ LL.length < 2 * cnt A[k] A)
          (fun F _ => A.length - (vi (F 10)).toNat) rfl ⟨rfl, f0, f4, ha, 0, by omega, rfl, fun k hk hk0 => by omega⟩ ?_
        clear f0 f1 f4 f7 ha F own
        rintro F g' ⟨hgg, f0, f4, f6, i, hi, f10, hbef⟩
        obtain rfl := hgg.symm
        by_cases hla : i < A.length
        · have hla' : (i : Int) < A.length := by omega
          obtain ⟨ab, ao, rfl, hab, hac⟩ := hac (by intro e; rw [e] at hla; simp at hla)
          have hx := hac i hla
          obtain ⟨x, hxe⟩ : ∃ x, x = A[i] := ⟨_, rfl⟩
          have hmem : x ∈ A := by rw [hxe]; exact List.getElem_mem hla
          rw [← hxe] at hx
          simp (config := {maxSteps := 2000000, implicitDefEqProofs := false}) only [go_sem, ↓reduceIte, Nat.reduceEqDiff, Nat.reduceAdd, Nat.reduceMul, Nat.reduceLeDiff, Nat.reduceLT, Nat.reduceSub, IntWalk.iteOmega, IntWalk.toNatUp, reduceCtorEq, false_and, and_false, false_or, or_false, true_or, or_true, not_true_eq_false, not_false_eq_true, Bool.not_true, Bool.not_false, Bool.and_true, Bool.true_and, Bool.and_false, Bool.false_and, Bool.not_eq_true, beq_self_eq_true, Nat.add_zero, Int.reduceLE, Int.reduceLT, Int.reduceToNat, Int.reduceNeg, f0, f4, f6, f10, hla']
          refine VS.loop' (fun F g' => g' = g ∧ F 0 = .slice p LL.length c ∧ F 4 = .pointer (some ⟨h.size, 0, none⟩) ∧ F 6 = .slice (some ⟨ab, ao, none⟩) A.length ca ∧ F 10 = .int .i64 i ∧ ∃ k : Nat, k ≤ A.length ∧ F 12 = .int .i64 k ∧ F 11 = .int .i64 (cnt x (A.take k) : Nat))
            (fun F _ => A.length - (vi (F 12)).toNat) rfl ⟨rfl, f0, f4, f6, f10, 0, by omega, rfl, rfl⟩ ?_
          clear f0 f4 f6 f10 F
          rintro F g' ⟨hgg, f0, f4, f6, f10, k, hk, f12, f11⟩
          obtain rfl := hgg.symm
          by_cases hlk : k < A.length
          · have hlk' : (k : Int) < A.length := by omega
            have hy := (hac k hlk).1
            have hct := cnt_take x hlk
            have hcl := cnt_le x (A.take k)
            rw [List.length_take] at hcl
            obtain ⟨y, hye⟩ : ∃ y, y = A[k] := ⟨_, rfl⟩
            rw [← hye] at hy hct
            obtain ⟨N, hN⟩ : ∃ N : Nat, N = cnt x (A.take k) := ⟨_, rfl⟩
            rw [← hN] at f11 hct hcl
            have hN9 : N ≤ 9 := by omega
            have hx1 := hx.1
            have vf : ∀ x : Vt, fitK [some .i64, some .i64, some .i64, some .i64, some .i64, some .i64, some .i64, some .i64] (voteC x) = true := fun _ => rfl
            have zab : ab < ab + 1 := by omega
            simp (config := {maxSteps := 2000000, implicitDefEqProofs := false}) only [go_sem, ↓reduceIte, Nat.reduceEqDiff, Nat.reduceAdd, Nat.reduceMul, Nat.reduceLeDiff, Nat.reduceLT, Nat.reduceSub, IntWalk.iteOmega, IntWalk.toNatUp, reduceCtorEq, false_and, and_false, false_or, or_false, true_or, or_true, not_true_eq_false, not_false_eq_true, Bool.not_true, Bool.not_false, Bool.and_true, Bool.true_and, Bool.and_false, Bool.false_and, Bool.not_eq_true, beq_self_eq_true, Nat.add_zero, Int.reduceLE, Int.reduceLT, Int.reduceToNat, Int.reduceNeg, f0, f4, f6, f10, f11, f12, hlk']
            refine VS.w (ab + 1) [] (.q 0 (.q 1 (.q 2 (.q 3 (.q 4 (.q 5 (.q 6 (.q 7 (.q 8 .nil))))))))) mixed (by kernel_rfl) ?_
            by_cases qy : y = x
            · rw [if_pos qy] at hct
              have hct' : ((cnt x (A.take (k + 1)) : Nat) : Int) = (N : Int) + 1 := by rw [hct]; rfl
              simp (config := {maxSteps := 2000000, implicitDefEqProofs := false}) only [go_sem, ↓reduceIte, Nat.reduceEqDiff, Nat.reduceAdd, Nat.reduceMul, Nat.reduceLeDiff, Nat.reduceLT, Nat.reduceSub, IntWalk.iteOmega, IntWalk.toNatUp, reduceCtorEq, false_and, and_false, false_or, or_false, true_or, or_true, not_true_eq_false, not_false_eq_true, Bool.not_true, Bool.not_false, Bool.and_true, Bool.true_and, Bool.and_false, Bool.false_and, Bool.not_eq_true, beq_self_eq_true, Nat.add_zero, Int.reduceLE, Int.reduceLT, Int.reduceToNat, Int.reduceNeg, f0, f4, f6, f10, f11, f12, Int.toNat_natCast, hy, hx1, hla', hlk', vf, voteC_leq, zab, qy]
              refine ⟨⟨rfl, f0, f4, f6, f10, k + 1, hlk, rfl, by rw [hct']; rfl⟩, ?_⟩
              simp only [vi, updo_some, ↓reduceIte, f12]; omega
            · rw [if_neg qy] at hct
              have hct' : ((cnt x (A.take (k + 1)) : Nat) : Int) = (N : Int) := by rw [hct]; rfl
              simp (config := {maxSteps := 2000000, implicitDefEqProofs := false}) only [go_sem, ↓reduceIte, Nat.reduceEqDiff, Nat.reduceAdd, Nat.reduceMul, Nat.reduceLeDiff, Nat.reduceLT, Nat.reduceSub, IntWalk.iteOmega, IntWalk.toNatUp, reduceCtorEq, false_and, and_false, false_or, or_false, true_or, or_true, not_true_eq_false, not_false_eq_true, Bool.not_true, Bool.not_false, Bool.and_true, Bool.true_and, Bool.and_false, Bool.false_and, Bool.not_eq_true, beq_self_eq_true, Nat.add_zero, Int.reduceLE, Int.reduceLT, Int.reduceToNat, Int.reduceNeg, f0, f4, f6, f10, f11, f12, Int.toNat_natCast, hy, hx1, hla', hlk', vf, voteC_leq, zab, qy]
              refine ⟨⟨rfl, f0, f4, f6, f10, k + 1, hlk, rfl, by rw [hct']; exact f11⟩, ?_⟩
              simp only [vi, updo_some, ↓reduceIte, f12]; omega
          · have hge2 : ¬ (k : Int) < A.length := by omega
            obtain rfl : k = A.length := by omega
            rw [List.take_length] at f11
            have hcl := cnt_le x A
            obtain ⟨N, hN⟩ : ∃ N : Nat, N = cnt x A := ⟨_, rfl⟩
            rw [← hN] at f11 hcl
            by_cases big : LL.length < 2 * N
            · have big' : (LL.length : Int) < (N : Int) + N := by omega
              have hw := hwin x hmem (by rw [← hN]; exact big)
              have hce : chE slot LL = 0 := by rw [hce, hw]; rfl
              have hcv : chV slot LL = x := by unfold chV; rw [hce, if_pos rfl, hw]; rfl
              have w2 := wz g gZ [.int .i64 x.k, .int .i64 x.c, .int .i64 x.s, .int .i64 x.nm, .int .i64 x.v] rfl rfl
              have hx2 := hx.2
              simp (config := {maxSteps := 2000000, implicitDefEqProofs := false}) only [go_sem, ↓reduceIte, Nat.reduceEqDiff, Nat.reduceAdd, Nat.reduceMul, Nat.reduceLeDiff, Nat.reduceLT, Nat.reduceSub, IntWalk.iteOmega, IntWalk.toNatUp, reduceCtorEq, false_and, and_false, false_or, or_false, true_or, or_true, not_true_eq_false, not_false_eq_true, Bool.not_true, Bool.not_false, Bool.and_true, Bool.true_and, Bool.and_false, Bool.false_and, Bool.not_eq_true, beq_self_eq_true, Nat.add_zero, Int.reduceLE, Int.reduceLT, Int.reduceToNat, Int.reduceNeg, f0, f4, f6, f10, f11, f12, hge2, big', Int.toNat_natCast, hla', hx2, w2, zZ, hce, hcv]
              exact ⟨rfl, hg.addSet (by omega) _⟩
            · have big' : ¬ (LL.length : Int) < (N : Int) + N := by omega
              simp (config := {maxSteps := 2000000, implicitDefEqProofs := false}) only [go_sem, ↓reduceIte, Nat.reduceEqDiff, Nat.reduceAdd, Nat.reduceMul, Nat.reduceLeDiff, Nat.reduceLT, Nat.reduceSub, IntWalk.iteOmega, IntWalk.toNatUp, reduceCtorEq, false_and, and_false, false_or, or_false, true_or, or_true, not_true_eq_false, not_false_eq_true, Bool.not_true, Bool.not_false, Bool.and_true, Bool.true_and, Bool.and_false, Bool.false_and, Bool.not_eq_true, beq_self_eq_true, Nat.add_zero, Int.reduceLE, Int.reduceLT, Int.reduceToNat, Int.reduceNeg, f0, f4, f6, f10, f11, f12, hge2, big']
              refine ⟨⟨rfl, f0, f4, f6, i + 1, hla, rfl, fun m hm hmi => ?_⟩, ?_⟩
              · by_cases e : m = i
                · subst e; rw [← hxe, ← hN]; exact big
                · exact hbef m hm (by omega)
              · simp only [vi, updo_some, ↓reduceIte, f10]; omega
        · have hge2 : ¬ (i : Int) < A.length := by omega
          have hw : win slot LL = none := hnone fun v hv => by
            obtain ⟨k, hk, rfl⟩ := List.getElem_of_mem hv
            exact hbef k hk (by omega)
          have hce : chE slot LL = 9 := by rw [hce, hw]; rfl
          have hcv := cv9 _ hce (by decide)
          have w2 := wz g gZ [.int .i64 0, .int .i64 0, .int .i64 0, .int .i64 0, .int .i64 0] rfl rfl
          simp (config := {maxSteps := 2000000, implicitDefEqProofs := false}) only [go_sem, ↓reduceIte, Nat.reduceEqDiff, Nat.reduceAdd, Nat.reduceMul, Nat.reduceLeDiff, Nat.reduceLT, Nat.reduceSub, IntWalk.iteOmega, IntWalk.toNatUp, reduceCtorEq, false_and, and_false, false_or, or_false, true_or, or_true, not_true_eq_false, not_false_eq_true, Bool.not_true, Bool.not_false, Bool.and_true, Bool.true_and, Bool.and_false, Bool.false_and, Bool.not_eq_true, beq_self_eq_true, Nat.add_zero, Int.reduceLE, Int.reduceLT, Int.reduceToNat, Int.reduceNeg, f0, f4, f6, f10, hge2, w2, zZ, hce, hcv]
          exact ⟨rfl, hg.addSet (by omega) _⟩
    · have q3' : ¬ (1 ≤ (LL.length : Int) ∧ (LL.length : Int) ≤ 5) := by omega
      have q3d : decide (1 ≤ (LL.length : Int) ∧ (LL.length : Int) ≤ 5) = false := decide_eq_false q3'
      have q1d : decide (0 ≤ slot ∧ slot ≤ 39) = true := decide_eq_true q1
      rw [if_pos (by omega)] at hce
      have hcv := cv9 _ hce (by decide)
      rw [q1d]
      simp (config := {maxSteps := 2000000, implicitDefEqProofs := false}) only [go_sem, ↓reduceIte, Nat.reduceEqDiff, Nat.reduceAdd, Nat.reduceMul, Nat.reduceLeDiff, Nat.reduceLT, Nat.reduceSub, IntWalk.iteOmega, IntWalk.toNatUp, reduceCtorEq, false_and, and_false, false_or, or_false, true_or, or_true, not_true_eq_false, not_false_eq_true, Bool.not_true, Bool.not_false, Bool.and_true, Bool.true_and, Bool.and_false, Bool.false_and, Bool.not_eq_true, beq_self_eq_true, Nat.add_zero, Int.reduceLE, Int.reduceLT, Int.reduceToNat, Int.reduceNeg]
      refine (in_ok T _ _ _ _).pure ?_
      rw [q3d]
      simp (config := {maxSteps := 2000000, implicitDefEqProofs := false}) only [go_sem, ↓reduceIte, Nat.reduceEqDiff, Nat.reduceAdd, Nat.reduceMul, Nat.reduceLeDiff, Nat.reduceLT, Nat.reduceSub, IntWalk.iteOmega, IntWalk.toNatUp, reduceCtorEq, false_and, and_false, false_or, or_false, true_or, or_true, not_true_eq_false, not_false_eq_true, Bool.not_true, Bool.not_false, Bool.and_true, Bool.true_and, Bool.and_false, Bool.false_and, Bool.not_eq_true, beq_self_eq_true, Nat.add_zero, Int.reduceLE, Int.reduceLT, Int.reduceToNat, Int.reduceNeg, hce, hcv]
      rfl
  · have q1d : decide (0 ≤ slot ∧ slot ≤ 39) = false := decide_eq_false q1
    rw [if_pos (by omega)] at hce
    have hcv := cv9 _ hce (by decide)
    rw [q1d]
    simp (config := {maxSteps := 2000000, implicitDefEqProofs := false}) only [go_sem, ↓reduceIte, Nat.reduceEqDiff, Nat.reduceAdd, Nat.reduceMul, Nat.reduceLeDiff, Nat.reduceLT, Nat.reduceSub, IntWalk.iteOmega, IntWalk.toNatUp, reduceCtorEq, false_and, and_false, false_or, or_false, true_or, or_true, not_true_eq_false, not_false_eq_true, Bool.not_true, Bool.not_false, Bool.and_true, Bool.true_and, Bool.and_false, Bool.false_and, Bool.not_eq_true, beq_self_eq_true, Nat.add_zero, Int.reduceLE, Int.reduceLT, Int.reduceToNat, Int.reduceNeg, hce, hcv]
    rfl
end Go.Proofs.Ytiakfdpmapmifaa
