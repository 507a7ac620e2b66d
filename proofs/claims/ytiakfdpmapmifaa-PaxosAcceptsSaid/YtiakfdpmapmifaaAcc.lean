/- A vote that is accepted: what the program computes; no condition but those in the statements. -/
import Derived.Test.YtiakfdpmapmifaaAci
namespace Go.Proofs.Ytiakfdpmapmifaa
open Go Go.V
set_option linter.unusedSimpArgs false
set_option linter.unusedVariables false
set_option maxRecDepth 100000
theorem srt_low {l : List Vt} (hs : Srt l) (hm : ∀ x ∈ l, voteMay x) : ∀ i (hi : i < l.length), (i : Int) ≤ l[i].slot := by
  intro i
  induction i with
  | zero => intro hi; have := (hm _ (List.getElem_mem hi)).1.1; omega
  | succ i ih =>
    intro hi
    have h1 := ih (by omega)
    have h2 := hs i (i + 1) (by omega) hi (by omega)
    omega
theorem srt_few {l : List Vt} (hs : Srt l) (hm : ∀ x ∈ l, voteMay x) : l.length ≤ 40 := by
  by_cases h : l.length ≤ 40
  · exact h
  · have h1 := srt_low hs hm 40 (by omega)
    have h2 := (hm _ (List.getElem_mem (show 40 < l.length by omega))).1.2
    omega
def acErr (p : Bal) (l : List Vt) (x : Vt) : Int := if accErr p l ≠ 0 then 5 else if ¬ voteMay x then 2 else if below x.b p then 7 else 0
def AcRes (B : Nat) (h' : Hp) (v' : Value) (p : Bal) (l : List Vt) (x : Vt) : Prop := ∃ w, v' = .tuple [.agg (accC (if acErr p l x = 0 then x.b else ⟨0, 0⟩) w).toArray, .int .i64 (acErr p l x)].toArray ∧
  Ots B 43 voteC 8 h' w (if acErr p l x = 0 then insV l x else [])
theorem accept_ok (T : World) (h : Hp) (p : Bal) (u : Value) (l : List Vt) (x : Vt) (s : Ts voteC 8 h u l) (hl : l.length ≤ 2199023255552) :
    CallsH Try.prog T 17 #[.agg (accC p u).toArray, .agg (voteC x).toArray] h fun v' h' => AcRes h.size h' v' p l x ∧ Bel h.size h h' := by
  obtain ⟨pu, cu, rfl, _⟩ := votes_open s
  refine CallsH.of_code2 (args := [_, _]) Try.func17 rfl rfl rfl rfl ?_
  unfold accC voteC
  simp (config := {maxSteps := 2000000, implicitDefEqProofs := false}) only [go_sem, ↓reduceIte, Nat.reduceEqDiff, Nat.reduceAdd, Nat.reduceMul, Nat.reduceLeDiff, Nat.reduceLT, Nat.reduceSub, IntWalk.iteOmega, IntWalk.toNatUp, reduceCtorEq, false_and, and_false, false_or, or_false, true_or, or_true, not_true_eq_false, not_false_eq_true, Bool.not_true, Bool.not_false, Bool.and_true, Bool.true_and, Bool.and_false, Bool.false_and, Bool.not_eq_true, beq_self_eq_true, Nat.add_zero, Int.reduceLE, Int.reduceLT, Int.reduceToNat, Int.reduceNeg]
  obtain ⟨h0, hh0⟩ : ∃ h0 : Hp, h0 = ((h.push (.cells (accC p (.slice pu l.length cu)).toArray 41)).push (.cells (voteC x).toArray 43)).push (.cells [.int .i64 0, .int .i64 0, .slice none 0 0].toArray 41) := ⟨_, rfl⟩
  have b0 : Bel h.size h h0 := by rw [hh0]; exact (((Bel.refl _ _).add _).add _).add _
  have s0 : h0.size = h.size + 3 := by rw [hh0]; simp
  have x0 : h0[h.size]? = some (.cells (accC p (.slice pu l.length cu)).toArray 41) := by
    rw [hh0, Array.getElem?_push, if_neg (by simp; omega), Array.getElem?_push, if_neg (by simp), get_push_last]
  have y0 : h0[h.size + 1]? = some (.cells (voteC x).toArray 43) := by
    rw [hh0, Array.getElem?_push, if_neg (by simp), Array.getElem?_push, if_pos (by simp)]
  have z0 : h0[h.size + 2]? = some (.cells [.int .i64 0, .int .i64 0, .slice none 0 0].toArray 41) := by
    rw [hh0, Array.getElem?_push, if_pos (by simp)]
  have e0 : ((h.push (.cells #[Value.int .i64 p.r, .int .i64 p.n, .slice pu l.length cu] 41)).push (.cells #[Value.int .i64 x.slot, .int .i64 x.b.r, .int .i64 x.b.n, .int .i64 x.k, .int .i64 x.c, .int .i64 x.s, .int .i64 x.nm, .int .i64 x.v] 43)).push (.cells #[Value.int .i64 0, .int .i64 0, .slice none 0 0] 41) = h0 := hh0.symm
  rw [e0]
  clear e0 hh0
  refine (paxosCheck_ok T h0 p _ l (s.bel b0) (by omega)).use ?_
  rintro _ h1 ⟨rfl, b1⟩
  have s1 := b1.size
  have B1 : Bel h.size h h1 := b0.trans (b1.mono (by omega))
  have x1 := b1.get (by omega) x0
  have y1 := b1.get (by omega) y0
  have z1 := b1.get (by omega) z0
  have fin : ∀ (G : Hp) (w : List Value), w.length = 3 → w.all oneC = true → G[h.size + 2]? = some (.cells [.int .i64 0, .int .i64 0, .slice none 0 0].toArray 41) → wr G ⟨h.size + 1 + 1, 0, none⟩ w = some (G.setIfInBounds (h.size + 1 + 1) (.cells w.toArray 41)) := by
    intro G w h3 h1 hx
    rw [wr_get (b := h.size + 1 + 1) hx 0 w, lput_full (by rw [h3]; rfl), if_pos ⟨by rw [h3]; simp, h1⟩]
  have hlt1 : h.size + 2 < h1.size := by omega
  unfold AcRes
  rcases accErr_five p l with e0 | e0
  case inr =>
    have e : acErr p l x = 5 := by unfold acErr; rw [if_pos (by rw [e0]; decide)]
    have w2 := fin h1 [.int .i64 0, .int .i64 0, .slice none 0 0] rfl rfl z1
    simp (config := {maxSteps := 2000000, implicitDefEqProofs := false}) only [go_sem, ↓reduceIte, Nat.reduceEqDiff, Nat.reduceAdd, Nat.reduceMul, Nat.reduceLeDiff, Nat.reduceLT, Nat.reduceSub, IntWalk.iteOmega, IntWalk.toNatUp, reduceCtorEq, false_and, and_false, false_or, or_false, true_or, or_true, not_true_eq_false, not_false_eq_true, Bool.not_true, Bool.not_false, Bool.and_true, Bool.true_and, Bool.and_false, Bool.false_and, Bool.not_eq_true, beq_self_eq_true, Nat.add_zero, Int.reduceLE, Int.reduceLT, Int.reduceToNat, Int.reduceNeg, e0, e, w2, hlt1]
    exact ⟨⟨_, rfl, Ots.nil _ _ _ _ _⟩, B1.addSet (by omega) _⟩
  have r1 : rd h1 ⟨h.size + 1, 0, none⟩ 8 = some (voteC x) := rd_last y1 rfl
  unfold voteC at r1
  simp (config := {maxSteps := 2000000, implicitDefEqProofs := false}) only [go_sem, ↓reduceIte, Nat.reduceEqDiff, Nat.reduceAdd, Nat.reduceMul, Nat.reduceLeDiff, Nat.reduceLT, Nat.reduceSub, IntWalk.iteOmega, IntWalk.toNatUp, reduceCtorEq, false_and, and_false, false_or, or_false, true_or, or_true, not_true_eq_false, not_false_eq_true, Bool.not_true, Bool.not_false, Bool.and_true, Bool.true_and, Bool.and_false, Bool.false_and, Bool.not_eq_true, beq_self_eq_true, Nat.add_zero, Int.reduceLE, Int.reduceLT, Int.reduceToNat, Int.reduceNeg, e0, r1]
  refine (vote_ok T h1 x).use ?_
  rintro _ h2 ⟨rfl, b2⟩
  have s2 := b2.size
  have B2 := B1.trans (b2.mono (by omega))
  have x2 := b2.get (by omega) x1
  have y2 := b2.get (by omega) y1
  have z2 := b2.get (by omega) z1
  have hlt2 : h.size + 2 < h2.size := by omega
  by_cases q1 : voteMay x
  case neg =>
    have e : acErr p l x = 2 := by unfold acErr; rw [if_neg (by rw [e0]; decide), if_pos q1]
    have w2 := fin h2 [.int .i64 0, .int .i64 0, .slice none 0 0] rfl rfl z2
    simp (config := {maxSteps := 2000000, implicitDefEqProofs := false}) only [go_sem, ↓reduceIte, Nat.reduceEqDiff, Nat.reduceAdd, Nat.reduceMul, Nat.reduceLeDiff, Nat.reduceLT, Nat.reduceSub, IntWalk.iteOmega, IntWalk.toNatUp, reduceCtorEq, false_and, and_false, false_or, or_false, true_or, or_true, not_true_eq_false, not_false_eq_true, Bool.not_true, Bool.not_false, Bool.and_true, Bool.true_and, Bool.and_false, Bool.false_and, Bool.not_eq_true, beq_self_eq_true, Nat.add_zero, Int.reduceLE, Int.reduceLT, Int.reduceToNat, Int.reduceNeg, q1, e, w2, hlt2]
    exact ⟨⟨_, rfl, Ots.nil _ _ _ _ _⟩, B2.addSet (by omega) _⟩
  have rb : rd h2 ⟨h.size + 1, 1, none⟩ 2 = some [.int .i64 x.b.r, .int .i64 x.b.n] := by rw [rd_part y2 (by simp [voteC])]; rfl
  have rp : rd h2 ⟨h.size, 0, none⟩ 2 = some [.int .i64 p.r, .int .i64 p.n] := by rw [rd_part x2 (by simp [accC])]; rfl
  simp (config := {maxSteps := 2000000, implicitDefEqProofs := false}) only [go_sem, ↓reduceIte, Nat.reduceEqDiff, Nat.reduceAdd, Nat.reduceMul, Nat.reduceLeDiff, Nat.reduceLT, Nat.reduceSub, IntWalk.iteOmega, IntWalk.toNatUp, reduceCtorEq, false_and, and_false, false_or, or_false, true_or, or_true, not_true_eq_false, not_false_eq_true, Bool.not_true, Bool.not_false, Bool.and_true, Bool.true_and, Bool.and_false, Bool.false_and, Bool.not_eq_true, beq_self_eq_true, Nat.add_zero, Int.reduceLE, Int.reduceLT, Int.reduceToNat, Int.reduceNeg, q1, rb, rp]
  refine (compare_ok T h2 x.b p).use ?_
  rintro _ h3 ⟨rfl, b3⟩
  have s3 := b3.size
  have B3 := B2.trans (b3.mono (by omega))
  have x3 := b3.get (by omega) x2
  have y3 := b3.get (by omega) y2
  have z3 := b3.get (by omega) z2
  have hlt3 : h.size + 2 < h3.size := by omega
  by_cases q2 : below x.b p
  case pos =>
    have e : acErr p l x = 7 := by unfold acErr; rw [if_neg (by rw [e0]; decide), if_neg (fun h => h q1), if_pos q2]
    have w2 := fin h3 [.int .i64 0, .int .i64 0, .slice none 0 0] rfl rfl z3
    have c2' : bcmp x.b p < 0 := (bcmp_neg x.b p).2 q2
    simp (config := {maxSteps := 2000000, implicitDefEqProofs := false}) only [go_sem, ↓reduceIte, Nat.reduceEqDiff, Nat.reduceAdd, Nat.reduceMul, Nat.reduceLeDiff, Nat.reduceLT, Nat.reduceSub, IntWalk.iteOmega, IntWalk.toNatUp, reduceCtorEq, false_and, and_false, false_or, or_false, true_or, or_true, not_true_eq_false, not_false_eq_true, Bool.not_true, Bool.not_false, Bool.and_true, Bool.true_and, Bool.and_false, Bool.false_and, Bool.not_eq_true, beq_self_eq_true, Nat.add_zero, Int.reduceLE, Int.reduceLT, Int.reduceToNat, Int.reduceNeg, c2', e, w2, hlt3]
    exact ⟨⟨_, rfl, Ots.nil _ _ _ _ _⟩, B3.addSet (by omega) _⟩
  have e : acErr p l x = 0 := by unfold acErr; rw [if_neg (by rw [e0]; decide), if_neg (fun h => h q1), if_neg q2]
  have c2' : ¬ bcmp x.b p < 0 := fun h => q2 ((bcmp_neg x.b p).1 h)
  have srt := accErr_srt e0
  have few := srt_few srt (accErr_may e0)
  have rv : hc h3 ⟨h.size, 2, none⟩ = some (.slice pu l.length cu) := by rw [hc_last x3]; rfl
  simp (config := {maxSteps := 2000000, implicitDefEqProofs := false}) only [go_sem, ↓reduceIte, Nat.reduceEqDiff, Nat.reduceAdd, Nat.reduceMul, Nat.reduceLeDiff, Nat.reduceLT, Nat.reduceSub, IntWalk.iteOmega, IntWalk.toNatUp, reduceCtorEq, false_and, and_false, false_or, or_false, true_or, or_true, not_true_eq_false, not_false_eq_true, Bool.not_true, Bool.not_false, Bool.and_true, Bool.true_and, Bool.and_false, Bool.false_and, Bool.not_eq_true, beq_self_eq_true, Nat.add_zero, Int.reduceLE, Int.reduceLT, Int.reduceToNat, Int.reduceNeg, c2', rv]
  refine (cloneVotes_ok T h3 _ l (s.bel B3) hl).use ?_
  rintro w4 h4 ⟨o4, b4⟩
  have s4 := b4.size
  have B4 := B3.trans (b4.mono (by omega))
  have y4 := b4.get (by omega) y3
  have z4 := b4.get (by omega) z3
  have r4 : rd h4 ⟨h.size + 1, 0, none⟩ 8 = some (voteC x) := rd_last y4 rfl
  unfold voteC at r4
  simp (config := {maxSteps := 2000000, implicitDefEqProofs := false}) only [go_sem, ↓reduceIte, Nat.reduceEqDiff, Nat.reduceAdd, Nat.reduceMul, Nat.reduceLeDiff, Nat.reduceLT, Nat.reduceSub, IntWalk.iteOmega, IntWalk.toNatUp, reduceCtorEq, false_and, and_false, false_or, or_false, true_or, or_true, not_true_eq_false, not_false_eq_true, Bool.not_true, Bool.not_false, Bool.and_true, Bool.true_and, Bool.and_false, Bool.false_and, Bool.not_eq_true, beq_self_eq_true, Nat.add_zero, Int.reduceLE, Int.reduceLT, Int.reduceToNat, Int.reduceNeg, r4]
  refine (bsearch_ok T h4 w4 l x o4.ts srt hl).use ?_
  rintro _ h5 ⟨⟨i, b, hi, rfl, hf⟩, b5⟩
  have s5 := b5.size
  have B5 := B4.trans (b5.mono (by omega))
  have y5 := b5.get (by omega) y4
  have z5 := b5.get (by omega) z4
  have o5 := o4.bel b5 (Nat.le_refl _)
  have r5 : rd h5 ⟨h.size + 1, 0, none⟩ 8 = some (voteC x) := rd_last y5 rfl
  unfold voteC at r5
  have n1 : (0 : Int) ≤ (i : Int) := by omega
  obtain ⟨p4, c4, rfl, hc4⟩ := o4.open
  rcases hf with ⟨rfl, hil, heq⟩ | ⟨rfl, hlo, hhi⟩
  · have hil' : (i : Int) < (l.length : Int) := by omega
    have c0 : c4 ≠ 0 := by omega
    obtain ⟨b, spare, hBb, rfl, hg, _, hsp, _⟩ := o5.own.spare c0
    have et : l = l.take i ++ (l[i] :: l.drop (i + 1)) := by
      conv => lhs; rw [← List.take_append_drop i l, List.drop_eq_getElem_cons hil]
    have es : l.set i x = l.take i ++ (x :: l.drop (i + 1)) := by rw [List.set_eq_take_append_cons_drop, if_pos hil]
    have ee : encs voteC l = encs voteC (l.take i) ++ (voteC l[i] ++ encs voteC (l.drop (i + 1))) := by
      have := congrArg (encs voteC) et
      rw [encs_append] at this
      exact this
    have eset : encs voteC (l.set i x) = encs voteC (l.take i) ++ (voteC x ++ encs voteC (l.drop (i + 1))) := by
      have := congrArg (encs voteC) es
      rw [encs_append] at this
      exact this
    have lt : (encs voteC (l.take i)).length = i * 8 := by rw [encV_length, List.length_take]; congr 1; omega
    have hw : wr h5 ⟨b, i * 8, none⟩ (voteC x) = some (h5.setIfInBounds b (.cells (encs voteC (l.set i x) ++ spare).toArray 43)) := by
      have ll := encV_length l
      have hmul : i * 8 + 8 ≤ l.length * 8 := by omega
      rw [wr_get hg, if_pos ⟨by rw [List.length_append, ll]; show i * 8 + 8 ≤ _; omega, rfl⟩, ee, List.append_assoc, List.append_assoc, lput_at lt.symm (show (voteC x).length = (voteC l[i]).length from rfl), eset, List.append_assoc, List.append_assoc]
    have hbz : b < h5.size := lt_of_get hg
    have hne1 : ¬ h.size + 1 = b := by omega
    have hne2 : ¬ h.size + 2 = b := by omega
    have rb5 : rd h5 ⟨h.size + 1, 1, none⟩ 2 = some [.int .i64 x.b.r, .int .i64 x.b.n] := by rw [rd_part y5 (by simp [voteC])]; rfl
    obtain ⟨h6, hh6⟩ : ∃ h6 : Hp, h6 = h5.setIfInBounds b (.cells (encs voteC (l.set i x) ++ spare).toArray 43) := ⟨_, rfl⟩
    rw [← hh6] at hw
    unfold voteC at hw
    have y6 : h6[h.size + 1]? = some (.cells (voteC x).toArray 43) := by rw [hh6, get_set_ne (by omega)]; exact y5
    have z6 : h6[h.size + 2]? = some (.cells [.int .i64 0, .int .i64 0, .slice none 0 0].toArray 41) := by rw [hh6, get_set_ne (by omega)]; exact z5
    have B6 : Bel h.size h h6 := by rw [hh6]; exact B5.addSet (by omega) _
    have o6 : Ots (h.size + 3) 43 voteC 8 h6 (.slice (some ⟨b, 0, none⟩) l.length c4) (l.set i x) := by
      refine ⟨?_⟩
      rw [List.length_set]
      exact Own.of_get (by omega) (by rw [hh6]; exact get_set hg) (by rw [encV_length, List.length_set]) hsp hc4
    have rb6 : rd h6 ⟨h.size + 1, 1, none⟩ 2 = some [.int .i64 x.b.r, .int .i64 x.b.n] := by rw [rd_part y6 (by simp [voteC])]; rfl
    have w6 := fin h6 [.int .i64 x.b.r, .int .i64 x.b.n, .slice (some ⟨b, 0, none⟩) l.length c4] rfl rfl z6
    have hlt6 : h.size + 2 < h6.size := lt_of_get z6
    simp (config := {maxSteps := 2000000, implicitDefEqProofs := false}) only [go_sem, ↓reduceIte, Nat.reduceEqDiff, Nat.reduceAdd, Nat.reduceMul, Nat.reduceLeDiff, Nat.reduceLT, Nat.reduceSub, IntWalk.iteOmega, IntWalk.toNatUp, reduceCtorEq, false_and, and_false, false_or, or_false, true_or, or_true, not_true_eq_false, not_false_eq_true, Bool.not_true, Bool.not_false, Bool.and_true, Bool.true_and, Bool.and_false, Bool.false_and, Bool.not_eq_true, beq_self_eq_true, Nat.add_zero, Int.reduceLE, Int.reduceLT, Int.reduceToNat, Int.reduceNeg, n1, hil', r5, Int.toNat_natCast, Nat.zero_add, hw, rb6, w6, hlt6, e]
    refine ⟨⟨_, rfl, ?_⟩, B6.addSet (by omega) _⟩
    rw [insV_old srt hil heq]
    exact (o6.setLow (by omega) _).mono (by omega)
  · have hn : insV l x = l.take i ++ x :: l.drop i := insV_new srt hi hlo hhi
    simp (config := {maxSteps := 2000000, implicitDefEqProofs := false}) only [go_sem, ↓reduceIte, Nat.reduceEqDiff, Nat.reduceAdd, Nat.reduceMul, Nat.reduceLeDiff, Nat.reduceLT, Nat.reduceSub, IntWalk.iteOmega, IntWalk.toNatUp, reduceCtorEq, false_and, and_false, false_or, or_false, true_or, or_true, not_true_eq_false, not_false_eq_true, Bool.not_true, Bool.not_false, Bool.and_true, Bool.true_and, Bool.and_false, Bool.false_and, Bool.not_eq_true, beq_self_eq_true, Nat.add_zero, Int.reduceLE, Int.reduceLT, Int.reduceToNat, Int.reduceNeg, r5]
    obtain ⟨h6, hh6⟩ : ∃ h6 : Hp, h6 = h5.push (.cells (voteC x).toArray 43) := ⟨_, rfl⟩
    have e6 : h5.push (.cells #[Value.int .i64 x.slot, .int .i64 x.b.r, .int .i64 x.b.n, .int .i64 x.k, .int .i64 x.c, .int .i64 x.s, .int .i64 x.nm, .int .i64 x.v] 43) = h6 := hh6.symm
    rw [e6]
    have b6 : Bel h5.size h5 h6 := by rw [hh6]; exact Bel.push (Nat.le_refl _) _
    have s6 : h6.size = h5.size + 1 := by rw [hh6]; simp
    have v6 : h6[h5.size]? = some (.cells (voteC x).toArray 43) := by rw [hh6]; exact get_push_last
    clear e6 hh6
    have B6 := B5.trans (b6.mono (by omega))
    have o6 := (o5.bel b6 (Nat.le_refl _)).mono (B' := h.size + 3) (by omega)
    have hne : c4 ≠ 0 → ∀ b o, p4 = some ⟨b, o, none⟩ → b ≠ h5.size := by
      intro c0 b o hp
      subst hp
      obtain ⟨b', _, _, hb', hg', _⟩ := o5.own.spare c0
      simp only [Option.some.injEq, Addr.mk.injEq] at hb'
      have := lt_of_get hg'
      omega
    refine (insert_ok T h6 (h.size + 3) p4 c4 i l x h5.size o6 (by omega) hi (by omega) v6 hne).use ?_
    rintro w7 h7 ⟨o7, b7⟩
    obtain ⟨p7, c7, rfl, _⟩ := o7.open
    have s7 := b7.size
    have B7 := B6.trans (b7.mono (by omega))
    have y7 := b7.get (by omega) (b6.get (by omega) y5)
    have z7 := b7.get (by omega) (b6.get (by omega) z5)
    have rb7 : rd h7 ⟨h.size + 1, 1, none⟩ 2 = some [.int .i64 x.b.r, .int .i64 x.b.n] := by rw [rd_part y7 (by simp [voteC])]; rfl
    obtain ⟨L, hL⟩ : ∃ L, L = l.take i ++ x :: l.drop i := ⟨_, rfl⟩
    rw [← hL] at o7 hn ⊢
    have w7 := fin h7 [.int .i64 x.b.r, .int .i64 x.b.n, .slice p7 L.length c7] rfl rfl z7
    have hlt7 : h.size + 2 < h7.size := lt_of_get z7
    simp (config := {maxSteps := 2000000, implicitDefEqProofs := false}) only [go_sem, ↓reduceIte, Nat.reduceEqDiff, Nat.reduceAdd, Nat.reduceMul, Nat.reduceLeDiff, Nat.reduceLT, Nat.reduceSub, IntWalk.iteOmega, IntWalk.toNatUp, reduceCtorEq, false_and, and_false, false_or, or_false, true_or, or_true, not_true_eq_false, not_false_eq_true, Bool.not_true, Bool.not_false, Bool.and_true, Bool.true_and, Bool.and_false, Bool.false_and, Bool.not_eq_true, beq_self_eq_true, Nat.add_zero, Int.reduceLE, Int.reduceLT, Int.reduceToNat, Int.reduceNeg, rb7, w7, hlt7, e]
    refine ⟨⟨_, rfl, ?_⟩, B7.addSet (by omega) _⟩
    rw [hn]
    exact (o7.setLow (by omega) _).mono (by omega)
end Go.Proofs.Ytiakfdpmapmifaa
