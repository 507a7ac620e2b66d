/- What is chosen: what the program computes; no condition but those in the statements. -/
import Derived.Test.YtiakfdpmapmifaaChm
namespace Go.Proofs.Ytiakfdpmapmifaa
open Go Go.V
set_option linter.unusedSimpArgs false
set_option linter.unusedVariables false
set_option maxRecDepth 100000
theorem voteC_fit (x : Vt) : fitK (rep 8 [some IntKind.i64]) (voteC x) = true := rfl
theorem mapU : Try.prog.underlying 49 = some (.map 43 3) := by kernel_rfl
theorem intZ : (Try.prog.info? 3).bind (·.zero) = some (.int .i64 0) := by kernel_rfl
theorem voteF : flat Try.prog 6 43 = some (rep 8 [some IntKind.i64]) := by kernel_rfl
theorem cmp_vote_look {g : Hp} {m : Nat} {l : List (Vt × Int)} {c : Nat} {K : Value → Hp → Prop} (hm : g[m]? = some (.map (ents voteC l) c)) (v : Vt) : vLook Try.prog 49 (.map (some m)) (.agg (voteC v).toArray) false K g ↔ K (.int .i64 (lookM v l)) g :=
  vLook_own mapU Try.underlying43 intZ voteF voteC_fit voteC_leq hm v
theorem all_take_snoc {LL : List Acr} {i : Nat} (hi : i < LL.length) : (LL.take (i + 1)).all okA = ((LL.take i).all okA && okA LL[i]) := by
  rw [take_snoc LL i hi, List.all_append]; simp
theorem allV_take {LL : List Acr} {i : Nat} (slot : Int) (hi : i < LL.length) : allV slot (LL.take (i + 1)) = allV slot (LL.take i) ++ inSlot slot LL[i].2 := by
  unfold allV; rw [take_snoc LL i hi, List.flatMap_append]; simp
theorem inSlot_take (slot : Int) {L : List Vt} {j : Nat} (hj : j < L.length) : inSlot slot (L.take (j + 1)) = inSlot slot (L.take j) ++ (if L[j].slot = slot then [L[j]] else []) := by
  unfold inSlot
  rw [take_snoc L j hj, List.filter_append]
  congr 1
  by_cases q : L[j].slot = slot
  · simp [q]
  · simp [q]
theorem not_all {LL : List Acr} {i : Nat} (hi : i < LL.length) (h : okA LL[i] = false) : LL.all okA = false := by
  rw [List.all_eq_false]
  exact ⟨_, List.getElem_mem hi, by simp [h]⟩
theorem inSlot_le (slot : Int) (L : List Vt) (j : Nat) : (inSlot slot (L.take j)).length ≤ (inSlot slot L).length := by
  unfold inSlot
  exact ((List.take_sublist j L).filter _).length_le
theorem filter_lt {α : Type} {p q : α → Bool} : ∀ {l : List α}, (∀ x ∈ l, q x = true → p x = true) → (∃ x ∈ l, p x = true ∧ q x = false) → (l.filter q).length < (l.filter p).length := by
  intro l
  induction l with
  | nil => rintro _ ⟨x, hx, _⟩; cases hx
  | cons y l ih =>
    intro h ⟨x, hx, hp, hq⟩
    have hle : ∀ {l : List α}, (∀ x ∈ l, q x = true → p x = true) → (l.filter q).length ≤ (l.filter p).length := by
      intro l
      induction l with
      | nil => intro _; exact Nat.le_refl _
      | cons z l ih2 =>
        intro h
        have h2 := ih2 (fun x hx => h x (List.mem_cons_of_mem _ hx))
        have h3 := h z (List.mem_cons_self ..)
        rw [List.filter_cons, List.filter_cons]
        cases hq : q z with
        | true => rw [h3 hq]; simpa using h2
        | false =>
          simp only [Bool.false_eq_true, if_false]
          split
          · simp; omega
          · exact h2
    rw [List.filter_cons, List.filter_cons]
    rcases List.mem_cons.1 hx with rfl | hx
    · rw [hp, hq]
      have := hle (fun x hx => h x (List.mem_cons_of_mem _ hx))
      simp; omega
    · have h2 := ih (fun x hx => h x (List.mem_cons_of_mem _ hx)) ⟨x, hx, hp, hq⟩
      have h3 := h y (List.mem_cons_self ..)
      cases hqy : q y with
      | true => rw [h3 hqy]; simp; omega
      | false =>
        simp only [Bool.false_eq_true, if_false]
        split
        · simp; omega
        · exact h2
set_option maxHeartbeats 2000000 in
theorem chosen_ok (T : World) (h : Hp) (u : Value) (LL : List Acr) (slot : Int) (s : Acs h u LL) (hL : LL.length * 40 ≤ 140737488355328) :
    CallsH Try.prog T 7 #[u, .int .i64 slot] h fun v' h' => ChRes v' slot LL ∧ Bel h.size h h' := by
  obtain ⟨p, c, rfl, hcs⟩ := s.open
  have hce : chE slot LL = if slot < 0 ∨ 39 < slot ∨ LL.length < 1 ∨ 5 < LL.length then 2 else if LL.all okA = true then (if (win slot LL).isSome then 0 else 9) else 5 := rfl
  refine CallsH.of_code2 (args := [_, _]) Try.func7 rfl rfl rfl rfl ?_
  unfold ChRes
  have cv9 : ∀ e : Int, chE slot LL = e → e ≠ 0 → chV slot LL = vtN := by
    intro e he h0
    unfold chV
    rw [if_neg (by rw [he]; exact h0)]
  by_cases q1 : slot < 0
  · rw [if_pos (.inl q1)] at hce
    have hcv := cv9 _ hce (by decide)
    simp (config := {maxSteps := 2000000, implicitDefEqProofs := false}) only [go_sem, ↓reduceIte, Nat.reduceEqDiff, Nat.reduceAdd, Nat.reduceMul, Nat.reduceLeDiff, Nat.reduceLT, Nat.reduceSub, IntWalk.iteOmega, IntWalk.toNatUp, reduceCtorEq, false_and, and_false, false_or, or_false, true_or, or_true, not_true_eq_false, not_false_eq_true, Bool.not_true, Bool.not_false, Bool.and_true, Bool.true_and, Bool.and_false, Bool.false_and, Bool.not_eq_true, beq_self_eq_true, Nat.add_zero, Int.reduceLE, Int.reduceLT, Int.reduceToNat, Int.reduceNeg, q1, hce, hcv]
    rfl
  by_cases q2 : 39 < slot
  · rw [if_pos (.inr (.inl q2))] at hce
    have hcv := cv9 _ hce (by decide)
    have q2' : 40 ≤ slot := by omega
    simp (config := {maxSteps := 2000000, implicitDefEqProofs := false}) only [go_sem, ↓reduceIte, Nat.reduceEqDiff, Nat.reduceAdd, Nat.reduceMul, Nat.reduceLeDiff, Nat.reduceLT, Nat.reduceSub, IntWalk.iteOmega, IntWalk.toNatUp, reduceCtorEq, false_and, and_false, false_or, or_false, true_or, or_true, not_true_eq_false, not_false_eq_true, Bool.not_true, Bool.not_false, Bool.and_true, Bool.true_and, Bool.and_false, Bool.false_and, Bool.not_eq_true, beq_self_eq_true, Nat.add_zero, Int.reduceLE, Int.reduceLT, Int.reduceToNat, Int.reduceNeg, q1, q2', hce, hcv]
    rfl
  have q2' : ¬ 40 ≤ slot := by omega
  by_cases q3 : LL.length < 1
  · rw [if_pos (.inr (.inr (.inl q3)))] at hce
    have hcv := cv9 _ hce (by decide)
    have q3' : (LL.length : Int) < 1 := by omega
    simp (config := {maxSteps := 2000000, implicitDefEqProofs := false}) only [go_sem, ↓reduceIte, Nat.reduceEqDiff, Nat.reduceAdd, Nat.reduceMul, Nat.reduceLeDiff, Nat.reduceLT, Nat.reduceSub, IntWalk.iteOmega, IntWalk.toNatUp, reduceCtorEq, false_and, and_false, false_or, or_false, true_or, or_true, not_true_eq_false, not_false_eq_true, Bool.not_true, Bool.not_false, Bool.and_true, Bool.true_and, Bool.and_false, Bool.false_and, Bool.not_eq_true, beq_self_eq_true, Nat.add_zero, Int.reduceLE, Int.reduceLT, Int.reduceToNat, Int.reduceNeg, q1, q2', q3', hce, hcv]
    rfl
  have q3' : ¬ (LL.length : Int) < 1 := by omega
  by_cases q4 : 5 < LL.length
  · rw [if_pos (.inr (.inr (.inr q4)))] at hce
    have hcv := cv9 _ hce (by decide)
    have q4' : 5 < (LL.length : Int) := by omega
    simp (config := {maxSteps := 2000000, implicitDefEqProofs := false}) only [go_sem, ↓reduceIte, Nat.reduceEqDiff, Nat.reduceAdd, Nat.reduceMul, Nat.reduceLeDiff, Nat.reduceLT, Nat.reduceSub, IntWalk.iteOmega, IntWalk.toNatUp, reduceCtorEq, false_and, and_false, false_or, or_false, true_or, or_true, not_true_eq_false, not_false_eq_true, Bool.not_true, Bool.not_false, Bool.and_true, Bool.true_and, Bool.and_false, Bool.false_and, Bool.not_eq_true, beq_self_eq_true, Nat.add_zero, Int.reduceLE, Int.reduceLT, Int.reduceToNat, Int.reduceNeg, q1, q2', q3', q4', hce, hcv]
    rfl
  have q4' : ¬ 5 < (LL.length : Int) := by omega
  rw [if_neg (by omega)] at hce
  simp (config := {maxSteps := 2000000, implicitDefEqProofs := false}) only [go_sem, ↓reduceIte, Nat.reduceEqDiff, Nat.reduceAdd, Nat.reduceMul, Nat.reduceLeDiff, Nat.reduceLT, Nat.reduceSub, IntWalk.iteOmega, IntWalk.toNatUp, reduceCtorEq, false_and, and_false, false_or, or_false, true_or, or_true, not_true_eq_false, not_false_eq_true, Bool.not_true, Bool.not_false, Bool.and_true, Bool.true_and, Bool.and_false, Bool.false_and, Bool.not_eq_true, beq_self_eq_true, Nat.add_zero, Int.reduceLE, Int.reduceLT, Int.reduceToNat, Int.reduceNeg, q1, q2', q3', q4']
  obtain ⟨H, hH⟩ : ∃ H : Hp, H = (h.push (.cells #[.int .i64 0, .int .i64 0, .int .i64 0, .int .i64 0, .int .i64 0] 24)).push (.map #[] 0) := ⟨_, rfl⟩
  have HB : Bel h.size h H := by rw [hH]; exact ((Bel.refl _ _).add _).add _
  have HZ : H[h.size]? = some (.cells (cmdW vtN).toArray 24) := by rw [hH, get_push_ne (by simp), get_push_last]; rfl
  have HM : H[h.size + 1]? = some (.map (ents voteC []) 0) := by
    have := get_push_last (h := h.push (.cells #[.int .i64 0, .int .i64 0, .int .i64 0, .int .i64 0, .int .i64 0] 24)) (o := .map #[] 0)
    rw [Array.size_push] at this
    rw [hH, this]; rfl
  rw [← hH]
  clear hH
  have wz : ∀ g : Hp, g[h.size]? = some (.cells (cmdW vtN).toArray 24) → ∀ w : List Value, w.length = 5 → w.all oneC = true → wr g ⟨h.size, 0, none⟩ w = some (g.setIfInBounds h.size (.cells w.toArray 24)) := by
    intro g hg w h5 h1
    rw [wr_get hg 0 w, lput_full (by rw [h5]; rfl), if_pos ⟨by rw [h5]; exact Nat.le_refl _, h1⟩]
  refine VS.loop' (fun F g => F 0 = .slice p LL.length c ∧ F 1 = .int .i64 slot ∧ F 4 = .pointer (some ⟨h.size, 0, none⟩) ∧ F 6 = .map (some (h.size + 1)) ∧ F 32 = .slice p LL.length c ∧ F 33 = .int .i64 LL.length ∧ Bel h.size h g ∧ g[h.size]? = some (.cells (cmdW vtN).toArray 24) ∧ ∃ (i : Nat) (l : List (Vt × Int)), i ≤ LL.length ∧ F 34 = .int .i64 i ∧ g[h.size + 1]? = some (.map (ents voteC l) l.length) ∧ Tal l (allV slot (LL.take i)) ∧ (LL.take i).all okA = true)
    (fun F _ => LL.length - (vi (F 34)).toNat) rfl ⟨rfl, rfl, rfl, rfl, rfl, rfl, HB, HZ, 0, [], by omega, rfl, HM, Tal.nil, rfl⟩ ?_
  clear HB HZ HM H
  rintro F g ⟨f0, f1, f4, f6, f32, f33, hg, gZ, i, l, hi, f34, gM, tal, hok⟩
  have zM := lt_of_get gM
  by_cases hlt : i < LL.length
  · have hlt' : (i : Int) < LL.length := by omega
    obtain ⟨bb, oo, rfl, hbb, hcs⟩ := hcs (by intro e; rw [e] at hlt; simp at hlt)
    obtain ⟨w, hw, _, tw, hwl⟩ := hcs i hlt
    have hw' : rd g ⟨bb, oo + i * 3, none⟩ 3 = some (accC LL[i].1 w) := by rw [rd_bel hg (by exact hbb)]; exact hw
    have hok' := all_take_snoc hlt
    have hal := allV_take slot hlt
    have hbad : okA LL[i] = false → LL.all okA = false := not_all hlt
    have hfew : okA LL[i] = true → (inSlot slot LL[i].2).length ≤ 1 := fun q => inSlot_one slot (accErr_srt (p := LL[i].1) (by simpa [okA] using q))
    have hokA : okA LL[i] = decide (accErr LL[i].1 LL[i].2 = 0) := rfl
    obtain ⟨L, hLi⟩ : ∃ L, L = LL[i].2 := ⟨_, rfl⟩
    obtain ⟨pb, hpb⟩ : ∃ pb, pb = LL[i].1 := ⟨_, rfl⟩
    rw [← hLi] at tw hwl hal hfew hokA
    rw [← hpb] at hw' hokA
    obtain ⟨pw, cw, rfl, hwc⟩ := votes_open tw
    unfold accC at hw'
    simp (config := {maxSteps := 2000000, implicitDefEqProofs := false}) only [go_sem, ↓reduceIte, Nat.reduceEqDiff, Nat.reduceAdd, Nat.reduceMul, Nat.reduceLeDiff, Nat.reduceLT, Nat.reduceSub, IntWalk.iteOmega, IntWalk.toNatUp, reduceCtorEq, false_and, and_false, false_or, or_false, true_or, or_true, not_true_eq_false, not_false_eq_true, Bool.not_true, Bool.not_false, Bool.and_true, Bool.true_and, Bool.and_false, Bool.false_and, Bool.not_eq_true, beq_self_eq_true, Nat.add_zero, Int.reduceLE, Int.reduceLT, Int.reduceToNat, Int.reduceNeg, f0, f1, f4, f6, f32, f33, f34, hlt', Int.toNat_natCast, hw']
    obtain ⟨g0, hg0⟩ : ∃ g0 : Hp, g0 = g.push (.cells [Value.int .i64 pb.r, .int .i64 pb.n, .slice pw L.length cw].toArray 41) := ⟨_, rfl⟩
    have b0 : Bel g.size g g0 := by rw [hg0]; exact Bel.push (Nat.le_refl _) _
    have x0 : g0[g.size]? = some (.cells [Value.int .i64 pb.r, .int .i64 pb.n, .slice pw L.length cw].toArray 41) := by rw [hg0]; exact get_push_last
    have eg0 : g.push (.cells #[Value.int .i64 pb.r, .int .i64 pb.n, .slice pw L.length cw] 41) = g0 := hg0.symm
    rw [← hg0]
    clear hg0 eg0
    have hgs := hg.size
    have hB0 := hg.trans (b0.mono hgs)
    have hck := paxosCheck_ok T g0 pb (.slice pw L.length cw) L (tw.bel hB0) (by omega)
    unfold accC at hck
    refine hck.use ?_
    rintro _ g1 ⟨rfl, b1⟩
    have hB1 := hB0.trans (b1.mono hB0.size)
    have gZ1 := b1.get (Nat.lt_of_lt_of_le (lt_of_get gZ) b0.size) (b0.get (lt_of_get gZ) gZ)
    have gM1 := b1.get (Nat.lt_of_lt_of_le zM b0.size) (b0.get zM gM)
    have x1 := b1.get (lt_of_get x0) x0
    have zZ1 := lt_of_get gZ1
    by_cases qe : accErr pb L = 0
    · rw [decide_eq_true qe] at hokA
      have rv : V.hc g1 ⟨g.size, 2, none⟩ = some (.slice pw L.length cw) := by rw [hc_last x1]; rfl
      simp (config := {maxSteps := 2000000, implicitDefEqProofs := false}) only [go_sem, ↓reduceIte, Nat.reduceEqDiff, Nat.reduceAdd, Nat.reduceMul, Nat.reduceLeDiff, Nat.reduceLT, Nat.reduceSub, IntWalk.iteOmega, IntWalk.toNatUp, reduceCtorEq, false_and, and_false, false_or, or_false, true_or, or_true, not_true_eq_false, not_false_eq_true, Bool.not_true, Bool.not_false, Bool.and_true, Bool.true_and, Bool.and_false, Bool.false_and, Bool.not_eq_true, beq_self_eq_true, Nat.add_zero, Int.reduceLE, Int.reduceLT, Int.reduceToNat, Int.reduceNeg, f0, f1, f4, f6, f32, f33, f34, qe, rv]
      have hfew' := hfew hokA
      have hAll := allV_few slot hok
      rw [List.length_take] at hAll
      refine VS.loop' (fun F g' => F 0 = .slice (some ⟨bb, oo, none⟩) LL.length c ∧ F 1 = .int .i64 slot ∧ F 4 = .pointer (some ⟨h.size, 0, none⟩) ∧ F 6 = .map (some (h.size + 1)) ∧ F 32 = .slice (some ⟨bb, oo, none⟩) LL.length c ∧ F 33 = .int .i64 LL.length ∧ F 34 = .int .i64 i ∧ F 45 = .slice pw L.length cw ∧ F 46 = .int .i64 L.length ∧ Bel h.size h g' ∧ g'[h.size]? = some (.cells (cmdW vtN).toArray 24) ∧ ∃ (j : Nat) (l : List (Vt × Int)), j ≤ L.length ∧ F 47 = .int .i64 j ∧ g'[h.size + 1]? = some (.map (ents voteC l) l.length) ∧ Tal l (allV slot (LL.take i) ++ inSlot slot (L.take j)))
        (fun F _ => L.length - (vi (F 47)).toNat) rfl ⟨f0, f1, f4, f6, f32, f33, f34, rfl, rfl, hB1, gZ1, 0, l, by omega, rfl, gM1, by rw [List.take_zero]; show Tal l (_ ++ []); rw [List.append_nil]; exact tal⟩ ?_
      clear f0 f1 f4 f6 f32 f33 f34 F rv x1 gZ1 gM1 hB1 b1 zZ1 g1 hck x0 b0 hB0 g0 gZ gM zM tal hw' hbad hgs hg
      clear l
      rintro F g2 ⟨f0, f1, f4, f6, f32, f33, f34, f45, f46, hg, gZ, j, l, hj, f47, gM, tal⟩
      have zM := lt_of_get gM
      by_cases hlj : j < L.length
      · have hlj' : (j : Int) < L.length := by omega
        obtain ⟨b2, o2, rfl, hb2, _, hwc⟩ := hwc (by intro e; rw [e] at hlj; simp at hlj)
        have r1 : rd g2 ⟨b2, o2 + j * 8, none⟩ 8 = some (voteC L[j]) := by rw [rd_bel hg (by exact hb2)]; exact hwc j hlj
        have hsn := inSlot_take slot hlj
        have hshort := inSlot_le slot L (j + 1)
        obtain ⟨v, hv⟩ : ∃ v, v = L[j] := ⟨_, rfl⟩
        rw [← hv] at r1 hsn
        obtain ⟨g3, hg3⟩ : ∃ g3 : Hp, g3 = g2.push (.cells (voteC v).toArray 43) := ⟨_, rfl⟩
        have b3 : Bel g2.size g2 g3 := by rw [hg3]; exact Bel.push (Nat.le_refl _) _
        have x3 : g3[g2.size]? = some (.cells (voteC v).toArray 43) := by rw [hg3]; exact get_push_last
        have y3 : V.hc g3 ⟨g2.size, 0, none⟩ = some (.int .i64 v.slot) := by rw [hc_last x3]; rfl
        have r3 := rd_last x3 (n := 8) rfl
        have hgs := hg.size
        have hB3 := hg.trans (b3.mono hgs)
        have gZ3 := b3.get (lt_of_get gZ) gZ
        have gM3 := b3.get zM gM
        have eg3 : g2.push (.cells #[.int .i64 v.slot, .int .i64 v.b.r, .int .i64 v.b.n, .int .i64 v.k, .int .i64 v.c, .int .i64 v.s, .int .i64 v.nm, .int .i64 v.v] 43) = g3 := hg3.symm
        clear hg3
        unfold voteC at r1 r3
        by_cases c2 : v.slot = slot
        · rw [if_pos c2] at hsn
          subst c2
          obtain ⟨talB, _⟩ := tal.bump v
          rw [List.append_assoc, ← hsn] at talB
          have hlk := tal.look v
          have hcl := cnt_le v (allV v.slot (LL.take i) ++ inSlot v.slot (L.take j))
          have hsh := inSlot_le v.slot L j
          rw [List.length_append] at hcl
          obtain ⟨N, hN⟩ : ∃ N : Nat, N = cnt v (allV v.slot (LL.take i) ++ inSlot v.slot (L.take j)) := ⟨_, rfl⟩
          rw [← hN] at hlk hcl
          have hN9 : N ≤ 9 := by omega
          have hli := look_ins v l
          rw [hlk] at hli
          have hbl : (bump v l).length = (insM v l).length := by unfold bump putM; rw [List.length_modify]
          have hbu : putM (insM v l) (posM v l) ((N : Int) + 1) = bump v l := by unfold bump; rw [hlk]
          obtain ⟨g4, hg4⟩ : ∃ g4 : Hp, g4 = g3.setIfInBounds (h.size + 1) (.map (ents voteC (insM v l)) (insM v l).length) := ⟨_, rfl⟩
          have x4 : g4[h.size + 1]? = some (.map (ents voteC (insM v l)) (insM v l).length) := by rw [hg4, Array.getElem?_setIfInBounds, if_pos rfl, if_pos (lt_of_get gM3)]
          have b4 : Bel (h.size + 1) g3 g4 := by rw [hg4]; exact (Bel.refl _ _).addSet (Nat.le_refl _) _
          obtain ⟨g5, hg5⟩ : ∃ g5 : Hp, g5 = g4.setIfInBounds (h.size + 1) (.map (ents voteC (bump v l)) (insM v l).length) := ⟨_, rfl⟩
          have x5 : g5[h.size + 1]? = some (.map (ents voteC (bump v l)) (bump v l).length) := by rw [hg5, Array.getElem?_setIfInBounds, if_pos rfl, if_pos (lt_of_get x4), hbl]
          have b5 : Bel (h.size + 1) g4 g5 := by rw [hg5]; exact (Bel.refl _ _).addSet (Nat.le_refl _) _
          have gZ5 := b5.get (by omega) (b4.get (by omega) gZ3)
          have hB5 := (hB3.trans (b4.mono (by omega))).trans (b5.mono (by omega))
          simp (config := {maxSteps := 2000000, implicitDefEqProofs := false}) only [go_sem, ↓reduceIte, Nat.reduceEqDiff, Nat.reduceAdd, Nat.reduceMul, Nat.reduceLeDiff, Nat.reduceLT, Nat.reduceSub, IntWalk.iteOmega, IntWalk.toNatUp, reduceCtorEq, false_and, and_false, false_or, or_false, true_or, or_true, not_true_eq_false, not_false_eq_true, Bool.not_true, Bool.not_false, Bool.and_true, Bool.true_and, Bool.and_false, Bool.false_and, Bool.not_eq_true, beq_self_eq_true, Nat.add_zero, Int.reduceLE, Int.reduceLT, Int.reduceToNat, Int.reduceNeg, f0, f1, f4, f6, f32, f33, f34, f45, f46, f47, hlj', Int.toNat_natCast, r1, eg3, y3]
          refine VS.w (h.size + 1) [6] (.q 0 (.s 1 (.or 2 (.q 3 (.s 4 (.q 5 (.w 6 .nil)))) (.s 4 (.q 5 (.s 2 (.q 3 (.w 6 .nil)))))))) mixed (by kernel_rfl) ?_
          simp (config := {maxSteps := 2000000, implicitDefEqProofs := false}) only [go_sem, ↓reduceIte, Nat.reduceEqDiff, Nat.reduceAdd, Nat.reduceMul, Nat.reduceLeDiff, Nat.reduceLT, Nat.reduceSub, IntWalk.iteOmega, IntWalk.toNatUp, reduceCtorEq, false_and, and_false, false_or, or_false, true_or, or_true, not_true_eq_false, not_false_eq_true, Bool.not_true, Bool.not_false, Bool.and_true, Bool.true_and, Bool.and_false, Bool.false_and, Bool.not_eq_true, beq_self_eq_true, Nat.add_zero, Int.reduceLE, Int.reduceLT, Int.reduceToNat, Int.reduceNeg, f0, f1, f4, f6, f32, f33, f34, f45, f46, f47, r3]
          refine ⟨?_, ?_⟩
          · refine (cmp_vote_look gM3 v).2 ?_
            rw [hlk]
            simp (config := {maxSteps := 2000000, implicitDefEqProofs := false}) only [go_sem, ↓reduceIte, Nat.reduceEqDiff, Nat.reduceAdd, Nat.reduceMul, Nat.reduceLeDiff, Nat.reduceLT, Nat.reduceSub, IntWalk.iteOmega, IntWalk.toNatUp, reduceCtorEq, false_and, and_false, false_or, or_false, true_or, or_true, not_true_eq_false, not_false_eq_true, Bool.not_true, Bool.not_false, Bool.and_true, Bool.true_and, Bool.and_false, Bool.false_and, Bool.not_eq_true, beq_self_eq_true, Nat.add_zero, Int.reduceLE, Int.reduceLT, Int.reduceToNat, Int.reduceNeg, f0, f1, f4, f6, f32, f33, f34, f45, f46, f47, r3]
            refine vMent_own mapU Try.underlying43 intZ voteF voteC_fit voteC_leq gM3 v ?_
            rw [← hg4]
            simp (config := {maxSteps := 2000000, implicitDefEqProofs := false}) only [go_sem, ↓reduceIte, Nat.reduceEqDiff, Nat.reduceAdd, Nat.reduceMul, Nat.reduceLeDiff, Nat.reduceLT, Nat.reduceSub, IntWalk.iteOmega, IntWalk.toNatUp, reduceCtorEq, false_and, and_false, false_or, or_false, true_or, or_true, not_true_eq_false, not_false_eq_true, Bool.not_true, Bool.not_false, Bool.and_true, Bool.true_and, Bool.and_false, Bool.false_and, Bool.not_eq_true, beq_self_eq_true, Nat.add_zero, Int.reduceLE, Int.reduceLT, Int.reduceToNat, Int.reduceNeg, f0, f1, f4, f6, f32, f33, f34, f45, f46, f47, r3]
            refine ⟨b4, vMset_own x4 hli.2 ?_⟩
            rw [hbu, ← hg5]
            simp (config := {maxSteps := 2000000, implicitDefEqProofs := false}) only [go_sem, ↓reduceIte, Nat.reduceEqDiff, Nat.reduceAdd, Nat.reduceMul, Nat.reduceLeDiff, Nat.reduceLT, Nat.reduceSub, IntWalk.iteOmega, IntWalk.toNatUp, reduceCtorEq, false_and, and_false, false_or, or_false, true_or, or_true, not_true_eq_false, not_false_eq_true, Bool.not_true, Bool.not_false, Bool.and_true, Bool.true_and, Bool.and_false, Bool.false_and, Bool.not_eq_true, beq_self_eq_true, Nat.add_zero, Int.reduceLE, Int.reduceLT, Int.reduceToNat, Int.reduceNeg, f0, f1, f4, f6, f32, f33, f34, f45, f46, f47]
            refine ⟨⟨f0, f1, f4, f6, f32, f33, f34, f45, f46, hB5, gZ5, j + 1, bump v l, hlj, rfl, x5, talB⟩, ?_⟩
            simp only [vi, updo_some, ↓reduceIte, f47]; omega
          · refine vMent_own mapU Try.underlying43 intZ voteF voteC_fit voteC_leq gM3 v ?_
            rw [← hg4]
            simp (config := {maxSteps := 2000000, implicitDefEqProofs := false}) only [go_sem, ↓reduceIte, Nat.reduceEqDiff, Nat.reduceAdd, Nat.reduceMul, Nat.reduceLeDiff, Nat.reduceLT, Nat.reduceSub, IntWalk.iteOmega, IntWalk.toNatUp, reduceCtorEq, false_and, and_false, false_or, or_false, true_or, or_true, not_true_eq_false, not_false_eq_true, Bool.not_true, Bool.not_false, Bool.and_true, Bool.true_and, Bool.and_false, Bool.false_and, Bool.not_eq_true, beq_self_eq_true, Nat.add_zero, Int.reduceLE, Int.reduceLT, Int.reduceToNat, Int.reduceNeg, f0, f1, f4, f6, f32, f33, f34, f45, f46, f47, r3]
            refine ⟨b4, (cmp_vote_look x4 v).2 ?_⟩
            rw [hli.1]
            simp (config := {maxSteps := 2000000, implicitDefEqProofs := false}) only [go_sem, ↓reduceIte, Nat.reduceEqDiff, Nat.reduceAdd, Nat.reduceMul, Nat.reduceLeDiff, Nat.reduceLT, Nat.reduceSub, IntWalk.iteOmega, IntWalk.toNatUp, reduceCtorEq, false_and, and_false, false_or, or_false, true_or, or_true, not_true_eq_false, not_false_eq_true, Bool.not_true, Bool.not_false, Bool.and_true, Bool.true_and, Bool.and_false, Bool.false_and, Bool.not_eq_true, beq_self_eq_true, Nat.add_zero, Int.reduceLE, Int.reduceLT, Int.reduceToNat, Int.reduceNeg, f0, f1, f4, f6, f32, f33, f34, f45, f46, f47]
            refine ⟨b4, vMset_own x4 hli.2 ?_⟩
            rw [hbu, ← hg5]
            simp (config := {maxSteps := 2000000, implicitDefEqProofs := false}) only [go_sem, ↓reduceIte, Nat.reduceEqDiff, Nat.reduceAdd, Nat.reduceMul, Nat.reduceLeDiff, Nat.reduceLT, Nat.reduceSub, IntWalk.iteOmega, IntWalk.toNatUp, reduceCtorEq, false_and, and_false, false_or, or_false, true_or, or_true, not_true_eq_false, not_false_eq_true, Bool.not_true, Bool.not_false, Bool.and_true, Bool.true_and, Bool.and_false, Bool.false_and, Bool.not_eq_true, beq_self_eq_true, Nat.add_zero, Int.reduceLE, Int.reduceLT, Int.reduceToNat, Int.reduceNeg, f0, f1, f4, f6, f32, f33, f34, f45, f46, f47]
            refine ⟨⟨f0, f1, f4, f6, f32, f33, f34, f45, f46, hB5, gZ5, j + 1, bump v l, hlj, rfl, x5, talB⟩, ?_⟩
            simp only [vi, updo_some, ↓reduceIte, f47]; omega
        · rw [if_neg c2, List.append_nil] at hsn
          simp (config := {maxSteps := 2000000, implicitDefEqProofs := false}) only [go_sem, ↓reduceIte, Nat.reduceEqDiff, Nat.reduceAdd, Nat.reduceMul, Nat.reduceLeDiff, Nat.reduceLT, Nat.reduceSub, IntWalk.iteOmega, IntWalk.toNatUp, reduceCtorEq, false_and, and_false, false_or, or_false, true_or, or_true, not_true_eq_false, not_false_eq_true, Bool.not_true, Bool.not_false, Bool.and_true, Bool.true_and, Bool.and_false, Bool.false_and, Bool.not_eq_true, beq_self_eq_true, Nat.add_zero, Int.reduceLE, Int.reduceLT, Int.reduceToNat, Int.reduceNeg, f0, f1, f4, f6, f32, f33, f34, f45, f46, f47, hlj', Int.toNat_natCast, r1, eg3, y3, c2]
          refine ⟨⟨f0, f1, f4, f6, f32, f33, f34, f45, f46, hB3, gZ3, j + 1, l, hlj, rfl, gM3, ?_⟩, ?_⟩
          · rw [hsn]; exact tal
          · simp only [vi, updo_some, ↓reduceIte, f47]; omega
      · have hge : ¬ (j : Int) < L.length := by omega
        obtain rfl : j = L.length := by omega
        rw [List.take_length] at tal
        simp (config := {maxSteps := 2000000, implicitDefEqProofs := false}) only [go_sem, ↓reduceIte, Nat.reduceEqDiff, Nat.reduceAdd, Nat.reduceMul, Nat.reduceLeDiff, Nat.reduceLT, Nat.reduceSub, IntWalk.iteOmega, IntWalk.toNatUp, reduceCtorEq, false_and, and_false, false_or, or_false, true_or, or_true, not_true_eq_false, not_false_eq_true, Bool.not_true, Bool.not_false, Bool.and_true, Bool.true_and, Bool.and_false, Bool.false_and, Bool.not_eq_true, beq_self_eq_true, Nat.add_zero, Int.reduceLE, Int.reduceLT, Int.reduceToNat, Int.reduceNeg, f0, f1, f4, f6, f32, f33, f34, f45, f46, f47, hge]
        refine ⟨⟨f0, f1, f4, f6, f32, f33, hg, gZ, i + 1, l, hlt, rfl, gM, ?_, ?_⟩, ?_⟩
        · rw [hal]; exact tal
        · rw [hok', hok, hokA]; rfl
        · simp only [vi, updo_some, ↓reduceIte, f34]; omega
    · have q5 : accErr pb L = 5 := (accErr_five pb L).resolve_left qe
      rw [decide_eq_false qe] at hokA
      rw [hbad hokA] at hce
      have hce : chE slot LL = 5 := hce
      have hcv := cv9 _ hce (by decide)
      have w2 := wz g1 gZ1 [.int .i64 0, .int .i64 0, .int .i64 0, .int .i64 0, .int .i64 0] rfl rfl
      simp (config := {maxSteps := 2000000, implicitDefEqProofs := false}) only [go_sem, ↓reduceIte, Nat.reduceEqDiff, Nat.reduceAdd, Nat.reduceMul, Nat.reduceLeDiff, Nat.reduceLT, Nat.reduceSub, IntWalk.iteOmega, IntWalk.toNatUp, reduceCtorEq, false_and, and_false, false_or, or_false, true_or, or_true, not_true_eq_false, not_false_eq_true, Bool.not_true, Bool.not_false, Bool.and_true, Bool.true_and, Bool.and_false, Bool.false_and, Bool.not_eq_true, beq_self_eq_true, Nat.add_zero, Int.reduceLE, Int.reduceLT, Int.reduceToNat, Int.reduceNeg, f0, f1, f4, f6, f32, f33, f34, q5, w2, zZ1, hce, hcv]
      exact ⟨rfl, hB1.addSet (by omega) _⟩
  · have hge : ¬ (i : Int) < LL.length := by omega
    obtain rfl : i = LL.length := by omega
    rw [List.take_length] at tal hok
    simp (config := {maxSteps := 2000000, implicitDefEqProofs := false}) only [go_sem, ↓reduceIte, Nat.reduceEqDiff, Nat.reduceAdd, Nat.reduceMul, Nat.reduceLeDiff, Nat.reduceLT, Nat.reduceSub, IntWalk.iteOmega, IntWalk.toNatUp, reduceCtorEq, false_and, and_false, false_or, or_false, true_or, or_true, not_true_eq_false, not_false_eq_true, Bool.not_true, Bool.not_false, Bool.and_true, Bool.true_and, Bool.and_false, Bool.false_and, Bool.not_eq_true, beq_self_eq_true, Nat.add_zero, Int.reduceLE, Int.reduceLT, Int.reduceToNat, Int.reduceNeg, f0, f1, f4, f6, f32, f33, f34, hge]
    refine vMrng_own mapU (es := ents voteC l) (c := l.length) gM ?_
    simp (config := {maxSteps := 2000000, implicitDefEqProofs := false}) only [go_sem, ↓reduceIte, Nat.reduceEqDiff, Nat.reduceAdd, Nat.reduceMul, Nat.reduceLeDiff, Nat.reduceLT, Nat.reduceSub, IntWalk.iteOmega, IntWalk.toNatUp, reduceCtorEq, false_and, and_false, false_or, or_false, true_or, or_true, not_true_eq_false, not_false_eq_true, Bool.not_true, Bool.not_false, Bool.and_true, Bool.true_and, Bool.and_false, Bool.false_and, Bool.not_eq_true, beq_self_eq_true, Nat.add_zero, Int.reduceLE, Int.reduceLT, Int.reduceToNat, Int.reduceNeg, f0, f1, f4, f6]
    rw [hok] at hce
    have hfew := allV_few slot hok
    have hgs := hg.size
    obtain ⟨gI, hgI⟩ : ∃ gI : Hp, gI = g.push (.mapIter (some (h.size + 1)) l.length #[] l.length) := ⟨_, rfl⟩
    have bI : Bel g.size g gI := by rw [hgI]; exact Bel.push (Nat.le_refl _) _
    have xI : gI[g.size]? = some (.mapIter (some (h.size + 1)) l.length #[] l.length) := by rw [hgI]; exact get_push_last
    rw [← hgI]
    clear hgI
    have hBI := hg.trans (bI.mono hgs)
    have gZI := bI.get (lt_of_get gZ) gZ
    have gMI := bI.get zM gM
    obtain ⟨it, hit⟩ : ∃ it, it = g.size := ⟨_, rfl⟩
    have hitz : h.size + 1 < it := by omega
    rw [← hit] at xI ⊢
    refine VS.loop' (fun F g' => F 0 = .slice p LL.length c ∧ F 4 = .pointer (some ⟨h.size, 0, none⟩) ∧ F 64 = .pointer (some ⟨it, 0, none⟩) ∧ Bel h.size h g' ∧ g'[h.size]? = some (.cells (cmdW vtN).toArray 24) ∧ g'[h.size + 1]? = some (.map (ents voteC l) l.length) ∧ ∃ seen : Array Nat, g'[it]? = some (.mapIter (some (h.size + 1)) l.length seen l.length) ∧ ∀ j (hj : j < l.length), j ∈ seen → ¬ LL.length < 2 * cnt l[j].1 (allV slot LL))
      (fun F g' => match g'[it]? with | some (.mapIter _ _ seen _) => ((List.range l.length).filter fun j => !seen.contains j).length | _ => 0) rfl ⟨f0, f4, rfl, hBI, gZI, gMI, #[], xI, fun j hj hs => by simp at hs⟩ ?_
    clear f0 f1 f4 f6 f32 f33 f34 F gZ gM hg zM gZI gMI hBI xI bI hgs
    rintro F g' ⟨f0, f4, f64, hg, gZ, gM, seen, xI, hseen⟩
    have hgs := hg.size
    have zI := lt_of_get xI
    have zZ := lt_of_get gZ
    simp (config := {maxSteps := 2000000, implicitDefEqProofs := false}) only [go_sem, ↓reduceIte, Nat.reduceEqDiff, Nat.reduceAdd, Nat.reduceMul, Nat.reduceLeDiff, Nat.reduceLT, Nat.reduceSub, IntWalk.iteOmega, IntWalk.toNatUp, reduceCtorEq, false_and, and_false, false_or, or_false, true_or, or_true, not_true_eq_false, not_false_eq_true, Bool.not_true, Bool.not_false, Bool.and_true, Bool.true_and, Bool.and_false, Bool.false_and, Bool.not_eq_true, beq_self_eq_true, Nat.add_zero, Int.reduceLE, Int.reduceLT, Int.reduceToNat, Int.reduceNeg, f0, f4, f64]
    refine vMnxt_own xI gM (fun hover => ?_) (fun j hj hnot => ?_)
    · have hnone : win slot LL = none := by
        refine win_none fun v hv => ?_
        obtain ⟨k, hk, rfl⟩ := tal.has v hv
        exact hseen k hk (hover k hk)
      rw [hnone] at hce
      have hce : chE slot LL = 9 := hce
      have hcv := cv9 _ hce (by decide)
      have w2 := wz g' gZ [.int .i64 0, .int .i64 0, .int .i64 0, .int .i64 0, .int .i64 0] rfl rfl
      simp (config := {maxSteps := 2000000, implicitDefEqProofs := false}) only [go_sem, ↓reduceIte, Nat.reduceEqDiff, Nat.reduceAdd, Nat.reduceMul, Nat.reduceLeDiff, Nat.reduceLT, Nat.reduceSub, IntWalk.iteOmega, IntWalk.toNatUp, reduceCtorEq, false_and, and_false, false_or, or_false, true_or, or_true, not_true_eq_false, not_false_eq_true, Bool.not_true, Bool.not_false, Bool.and_true, Bool.true_and, Bool.and_false, Bool.false_and, Bool.not_eq_true, beq_self_eq_true, Nat.add_zero, Int.reduceLE, Int.reduceLT, Int.reduceToNat, Int.reduceNeg, f0, f4, f64, w2, zZ, hce, hcv]
      exact ⟨rfl, hg.addSet (by omega) _⟩
    · have hnum := tal.num j hj
      obtain ⟨x, hx⟩ : ∃ x, x = l[j].1 := ⟨_, rfl⟩
      have hcur := hnum.1
      rw [← hx] at hnum hcur ⊢
      have hcl := cnt_le x (allV slot LL)
      obtain ⟨N, hN⟩ : ∃ N : Nat, N = cnt x (allV slot LL) := ⟨_, rfl⟩
      rw [← hN] at hcur hcl
      rw [hcur]
      obtain ⟨g4, hg4⟩ : ∃ g4 : Hp, g4 = g'.setIfInBounds it (.mapIter (some (h.size + 1)) l.length (seen.push j) l.length) := ⟨_, rfl⟩
      have x4 : g4[it]? = some (.mapIter (some (h.size + 1)) l.length (seen.push j) l.length) := by rw [hg4, Array.getElem?_setIfInBounds, if_pos rfl, if_pos zI]
      have gZ4 : g4[h.size]? = some (.cells (cmdW vtN).toArray 24) := by rw [hg4, Array.getElem?_setIfInBounds, if_neg (by omega)]; exact gZ
      have gM4 : g4[h.size + 1]? = some (.map (ents voteC l) l.length) := by rw [hg4, Array.getElem?_setIfInBounds, if_neg (by omega)]; exact gM
      have hB4 : Bel h.size h g4 := by rw [hg4]; exact hg.addSet (by omega) _
      rw [← hg4]
      clear hg4
      simp (config := {maxSteps := 2000000, implicitDefEqProofs := false}) only [go_sem, ↓reduceIte, Nat.reduceEqDiff, Nat.reduceAdd, Nat.reduceMul, Nat.reduceLeDiff, Nat.reduceLT, Nat.reduceSub, IntWalk.iteOmega, IntWalk.toNatUp, reduceCtorEq, false_and, and_false, false_or, or_false, true_or, or_true, not_true_eq_false, not_false_eq_true, Bool.not_true, Bool.not_false, Bool.and_true, Bool.true_and, Bool.and_false, Bool.false_and, Bool.not_eq_true, beq_self_eq_true, Nat.add_zero, Int.reduceLE, Int.reduceLT, Int.reduceToNat, Int.reduceNeg, f0, f4, f64]
      refine vMcur_own hj x4 gM4 ?_
      rw [← hx, hcur]
      unfold voteC
      obtain ⟨g5, hg5⟩ : ∃ g5 : Hp, g5 = g4.push (.cells (voteC x).toArray 43) := ⟨_, rfl⟩
      have b5 : Bel g4.size g4 g5 := by rw [hg5]; exact Bel.push (Nat.le_refl _) _
      have x5 : g5[g4.size]? = some (.cells (voteC x).toArray 43) := by rw [hg5]; exact get_push_last
      have y5 : rd g5 ⟨g4.size, 3, none⟩ 5 = some [.int .i64 x.k, .int .i64 x.c, .int .i64 x.s, .int .i64 x.nm, .int .i64 x.v] := by rw [rd_part x5 (by simp [voteC])]; rfl
      have eg5 : g4.push (.cells #[.int .i64 x.slot, .int .i64 x.b.r, .int .i64 x.b.n, .int .i64 x.k, .int .i64 x.c, .int .i64 x.s, .int .i64 x.nm, .int .i64 x.v] 43) = g5 := hg5.symm
      clear hg5
      have hgs4 := hB4.size
      have hB5 := hB4.trans (b5.mono hgs4)
      have gZ5 := b5.get (lt_of_get gZ4) gZ4
      have gM5 := b5.get (lt_of_get gM4) gM4
      have xI5 := b5.get (lt_of_get x4) x4
      have zZ5 := lt_of_get gZ5
      by_cases big : LL.length < 2 * N
      · have big' : (LL.length : Int) < 2 * (N : Int) := by omega
        have hw := win_some hok hnum.2 (by rw [← hN]; exact big)
        have hce : chE slot LL = 0 := by rw [hce, hw]; rfl
        have hcv : chV slot LL = x := by unfold chV; rw [hce, if_pos rfl, hw]; rfl
        have w2 := wz g5 gZ5 [.int .i64 x.k, .int .i64 x.c, .int .i64 x.s, .int .i64 x.nm, .int .i64 x.v] rfl rfl
        simp (config := {maxSteps := 2000000, implicitDefEqProofs := false}) only [go_sem, ↓reduceIte, Nat.reduceEqDiff, Nat.reduceAdd, Nat.reduceMul, Nat.reduceLeDiff, Nat.reduceLT, Nat.reduceSub, IntWalk.iteOmega, IntWalk.toNatUp, reduceCtorEq, false_and, and_false, false_or, or_false, true_or, or_true, not_true_eq_false, not_false_eq_true, Bool.not_true, Bool.not_false, Bool.and_true, Bool.true_and, Bool.and_false, Bool.false_and, Bool.not_eq_true, beq_self_eq_true, Nat.add_zero, Int.reduceLE, Int.reduceLT, Int.reduceToNat, Int.reduceNeg, f0, f4, f64, eg5, y5, big', w2, zZ5, hce, hcv]
        exact ⟨rfl, hB5.addSet (by omega) _⟩
      · have big' : ¬ (LL.length : Int) < 2 * (N : Int) := by omega
        simp (config := {maxSteps := 2000000, implicitDefEqProofs := false}) only [go_sem, ↓reduceIte, Nat.reduceEqDiff, Nat.reduceAdd, Nat.reduceMul, Nat.reduceLeDiff, Nat.reduceLT, Nat.reduceSub, IntWalk.iteOmega, IntWalk.toNatUp, reduceCtorEq, false_and, and_false, false_or, or_false, true_or, or_true, not_true_eq_false, not_false_eq_true, Bool.not_true, Bool.not_false, Bool.and_true, Bool.true_and, Bool.and_false, Bool.false_and, Bool.not_eq_true, beq_self_eq_true, Nat.add_zero, Int.reduceLE, Int.reduceLT, Int.reduceToNat, Int.reduceNeg, f0, f4, f64, eg5, big']
        refine ⟨⟨f0, f4, f64, hB5, gZ5, gM5, seen.push j, xI5, fun k hk hs => ?_⟩, ?_⟩
        · rcases Array.mem_push.1 hs with hs | rfl
          · exact hseen k hk hs
          · rw [← hx, ← hN]; exact big
        · simp only [xI, xI5]
          exact filter_lt (fun k hk hq => by simp at hq ⊢; exact hq.1) ⟨j, List.mem_range.2 hj, by simpa using hnot, by simp⟩
end Go.Proofs.Ytiakfdpmapmifaa
