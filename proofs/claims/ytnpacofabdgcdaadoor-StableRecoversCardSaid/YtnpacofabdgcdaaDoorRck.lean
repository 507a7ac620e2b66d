/- StableRecovers: the law's walk; the table of numbers as the program lays it. -/
import Derived.Test.YtnpacofabdgcdaaDoorRcw
import Derived.Test.YtnpacofabdgcdaaDoorCards
import Derived.Test.YtnpacofabdgcdaaDoorTie
namespace Go.Proofs.YtnpacofabdgcdaaDoor
open Go Go.V
set_option linter.unusedSimpArgs false
set_option linter.unusedVariables false
set_option maxRecDepth 100000
theorem rec_eq {l : List Nat} {n : Int} {r r' : Acp} {k k' : Nat} {E E' : Int} (h : if tapeOk l n then E = 0 ∧ Rec l acp0 0 r k else E = 5 ∧ r = acp0 ∧ k = 0) (h' : if tapeOk l n then E' = 0 ∧ Rec l acp0 0 r' k' else E' = 5 ∧ r' = acp0 ∧ k' = 0) : r' = r ∧ k' = k ∧ E' = E := by
  by_cases q : tapeOk l n
  · rw [if_pos q] at h h'
    obtain ⟨e1, e2⟩ := h'.2.det h.2
    exact ⟨e1, e2, h'.1.trans h.1.symm⟩
  · rw [if_neg q] at h h'
    exact ⟨h'.2.1.trans h.2.1.symm, h'.2.2.trans h.2.2.symm, h'.1.trans h.1.symm⟩
theorem stableRecovers_ok : LawOkL Tryd.prog Tk 16 Tryd.f16.params.toList := by
  intro T args tk hfit
  rw [show Tryd.f16.params.toList = [65] from rfl] at hfit
  obtain ⟨v, _, rfl, ⟨k1, h1⟩, hfit⟩ := fitAll_cons hfit
  obtain rfl := fitAll_nil hfit
  obtain ⟨w, n, l, rfl, s, hl, hcap⟩ := tapeArg h1
  clear h1
  generalize T.heap = h at *
  obtain ⟨p, c, rfl, hc1⟩ := s.open
  refine CallsH.of_code' (args := [_]) Tryd.func16 rfl rfl rfl rfl ?_
  simp (config := {maxSteps := 2000000, implicitDefEqProofs := false}) only [go_sem, ↓reduceIte, Nat.reduceEqDiff, Nat.reduceAdd, Nat.reduceMul, Nat.reduceLeDiff, Nat.reduceLT, Nat.reduceSub, IntWalk.iteOmega, IntWalk.toNatUp, reduceCtorEq, false_and, and_false, false_or, or_false, true_or, or_true, not_true_eq_false, not_false_eq_true, Bool.not_true, Bool.not_false, Bool.and_true, Bool.true_and, Bool.and_false, Bool.false_and, Bool.not_eq_true, beq_self_eq_true, Nat.add_zero, Int.reduceLE, Int.reduceLT, Int.reduceToNat, Int.reduceNeg]
  obtain ⟨h0, hh0⟩ : ∃ h0 : Hp, h0 = h.push (.cells [.slice p l.length c, .int .i64 n].toArray 65) := ⟨_, rfl⟩
  have b0 : Bel h.size h h0 := by rw [hh0]; exact (Bel.refl _ _).add _
  have s0 : h0.size = h.size + 1 := by rw [hh0]; simp
  have t0 : h0[h.size]? = some (.cells [.slice p l.length c, .int .i64 n].toArray 65) := by rw [hh0, get_push_last]
  have e0 : h.push (.cells #[Value.slice p l.length c, .int .i64 n] 65) = h0 := hh0.symm
  have e0' : h.push (.cells [Value.slice p l.length c, .int .i64 n].toArray 65) = h0 := hh0.symm
  first | rw [e0] | rw [e0']
  clear e0 e0' hh0
  refine (tapes_ok T h0 _ n l (s.bel b0) hl).use ?_
  rintro _ h1 ⟨w1, rfl, o1, b1⟩
  have B1 := b0.trans (b1.mono b0.size)
  have z1 := b1.size
  obtain ⟨p1, c1, rfl, _⟩ := o1.bs.open
  have t01 := b1.get (by omega) t0
  simp (config := {maxSteps := 2000000, implicitDefEqProofs := false}) only [go_sem, ↓reduceIte, Nat.reduceEqDiff, Nat.reduceAdd, Nat.reduceMul, Nat.reduceLeDiff, Nat.reduceLT, Nat.reduceSub, IntWalk.iteOmega, IntWalk.toNatUp, reduceCtorEq, false_and, and_false, false_or, or_false, true_or, or_true, not_true_eq_false, not_false_eq_true, Bool.not_true, Bool.not_false, Bool.and_true, Bool.true_and, Bool.and_false, Bool.false_and, Bool.not_eq_true, beq_self_eq_true, Nat.add_zero, Int.reduceLE, Int.reduceLT, Int.reduceToNat, Int.reduceNeg]
  obtain ⟨h2, hh2⟩ : ∃ h2 : Hp, h2 = h1.push (.cells [.slice p1 l.length c1, .int .i64 n].toArray 65) := ⟨_, rfl⟩
  have b2 : Bel h1.size h1 h2 := by rw [hh2]; exact Bel.push (Nat.le_refl _) _
  have z2 : h2.size = h1.size + 1 := by rw [hh2]; simp
  have x2 : h2[h1.size]? = some (.cells [.slice p1 l.length c1, .int .i64 n].toArray 65) := by rw [hh2]; exact get_push_last
  have eh2 : h1.push (.cells #[Value.slice p1 l.length c1, .int .i64 n] 65) = h2 := hh2.symm
  rw [eh2]
  clear eh2 hh2
  have B2 := B1.trans (b2.mono B1.size)
  refine (recover_ok T h2 _ n l ((o1.bel b2 (Nat.le_refl _)).bs) hl (tk.bels B2)).use ?_
  rintro _ h3 ⟨⟨r, k, E, w3, rfl, o3, hk3, hr3, q3⟩, b3⟩
  obtain ⟨p3, c3, rfl, _⟩ := o3.open
  have B3 := B2.trans (b3.mono B2.size)
  have z3 := b3.size
  have t03 := b3.get (by omega) (b2.get (by omega) t01)
  have x3 := b3.get (by omega) x2
  have r03 := rd_last t03 (n := 2) rfl
  have e03 : ¬ h.size = h3.size := by omega
  unfold accC
  simp (config := {maxSteps := 2000000, implicitDefEqProofs := false}) only [go_sem, ↓reduceIte, Nat.reduceEqDiff, Nat.reduceAdd, Nat.reduceMul, Nat.reduceLeDiff, Nat.reduceLT, Nat.reduceSub, IntWalk.iteOmega, IntWalk.toNatUp, reduceCtorEq, false_and, and_false, false_or, or_false, true_or, or_true, not_true_eq_false, not_false_eq_true, Bool.not_true, Bool.not_false, Bool.and_true, Bool.true_and, Bool.and_false, Bool.false_and, Bool.not_eq_true, beq_self_eq_true, Nat.add_zero, Int.reduceLE, Int.reduceLT, Int.reduceToNat, Int.reduceNeg, r03, e03]
  obtain ⟨h4, hh4⟩ : ∃ h4 : Hp, h4 = h3.push (.cells [.int .i64 r.p.r, .int .i64 r.p.n, .slice p3 r.l.length c3].toArray 85) := ⟨_, rfl⟩
  have b4 : Bel h3.size h3 h4 := by rw [hh4]; exact Bel.push (Nat.le_refl _) _
  have z4 : h4.size = h3.size + 1 := by rw [hh4]; simp
  have x4 : h4[h3.size]? = some (.cells [.int .i64 r.p.r, .int .i64 r.p.n, .slice p3 r.l.length c3].toArray 85) := by rw [hh4]; exact get_push_last
  have eh4 : h3.push (.cells #[Value.int .i64 r.p.r, .int .i64 r.p.n, .slice p3 r.l.length c3] 85) = h4 := hh4.symm
  rw [eh4]
  clear eh4 hh4
  have B4 := B3.trans (b4.mono B3.size)
  refine (recovered_ok T h4 _ n l (s.bel B4) hcap hl).use ?_
  rintro _ h5 ⟨⟨r', k', E', w5, rfl, o5, hk5, hr5, q5⟩, b5⟩
  obtain ⟨rfl, rfl, rfl⟩ := rec_eq q3 q5
  obtain ⟨p5, c5, rfl, _⟩ := o5.open
  have B5 := B4.trans (b5.mono B4.size)
  have z5 := b5.size
  have t05 := b5.get (by omega) (b4.get (by omega) t03)
  have x35 := b5.get (by omega) (b4.get (by omega) x3)
  have x45 := b5.get (by omega) x4
  have r45 := rd_last x45 (n := 3) rfl
  have e45 : ¬ h3.size = h5.size := by omega
  have hlr : r'.l.length ≤ 2199023255552 := by
    by_cases q : tapeOk l n
    · have := q.1; omega
    · rw [if_neg q] at q5
      rw [q5.2.1]; exact Nat.zero_le _
  unfold accC
  simp (config := {maxSteps := 2000000, implicitDefEqProofs := false}) only [go_sem, ↓reduceIte, Nat.reduceEqDiff, Nat.reduceAdd, Nat.reduceMul, Nat.reduceLeDiff, Nat.reduceLT, Nat.reduceSub, IntWalk.iteOmega, IntWalk.toNatUp, reduceCtorEq, false_and, and_false, false_or, or_false, true_or, or_true, not_true_eq_false, not_false_eq_true, Bool.not_true, Bool.not_false, Bool.and_true, Bool.true_and, Bool.and_false, Bool.false_and, Bool.not_eq_true, beq_self_eq_true, Nat.add_zero, Int.reduceLE, Int.reduceLT, Int.reduceToNat, Int.reduceNeg, r45, e45]
  have b35 : Bel h3.size h3 h5 := b4.trans (b5.mono (by omega))
  have pB := Bel.push (Nat.le_refl h5.size) (Obj.cells [.int .i64 r'.p.r, .int .i64 r'.p.n, .slice p5 r'.l.length c5].toArray 85)
  refine (sameAcceptor_eq T _ r'.p _ _ r'.l ((o3.ts.bel b35).bel pB) (o5.ts.bel pB) hlr).use ?_
  rintro _ h6 ⟨rfl, b6⟩
  have B6 : Bel h5.size h5 h6 := pB.trans (b6.mono (by simp))
  have z6 := B6.size
  have t06 := B6.get (by omega) t05
  have x36 := B6.get (by omega) x35
  have r06 := rd_last t06 (n := 2) rfl
  have r36 := rd_last x36 (n := 2) rfl
  simp (config := {maxSteps := 2000000, implicitDefEqProofs := false}) only [go_sem, ↓reduceIte, Nat.reduceEqDiff, Nat.reduceAdd, Nat.reduceMul, Nat.reduceLeDiff, Nat.reduceLT, Nat.reduceSub, IntWalk.iteOmega, IntWalk.toNatUp, reduceCtorEq, false_and, and_false, false_or, or_false, true_or, or_true, not_true_eq_false, not_false_eq_true, Bool.not_true, Bool.not_false, Bool.and_true, Bool.true_and, Bool.and_false, Bool.false_and, Bool.not_eq_true, beq_self_eq_true, Nat.add_zero, Int.reduceLE, Int.reduceLT, Int.reduceToNat, Int.reduceNeg, r06, r36]
  have B16 : Bel h1.size h1 h6 := b2.trans ((b3.mono (by omega)).trans ((b4.mono (by omega)).trans ((b5.mono (by omega)).trans (B6.mono (by omega)))))
  have BB6 := B5.trans (B6.mono B5.size)
  refine (sameTape_ok T _ _ _ n n l l ((o1.bel B16 (Nat.le_refl _)).bs) (s.bel BB6)).use ?_
  rintro _ h7 ⟨rfl, b7⟩
  simp (config := {maxSteps := 2000000, implicitDefEqProofs := false}) only [go_sem, ↓reduceIte, Nat.reduceEqDiff, Nat.reduceAdd, Nat.reduceMul, Nat.reduceLeDiff, Nat.reduceLT, Nat.reduceSub, IntWalk.iteOmega, IntWalk.toNatUp, reduceCtorEq, false_and, and_false, false_or, or_false, true_or, or_true, not_true_eq_false, not_false_eq_true, Bool.not_true, Bool.not_false, Bool.and_true, Bool.true_and, Bool.and_false, Bool.false_and, Bool.not_eq_true, beq_self_eq_true, Nat.add_zero, Int.reduceLE, Int.reduceLT, Int.reduceToNat, Int.reduceNeg]
  exact BB6.trans (b7.mono BB6.size)
end Go.Proofs.YtnpacofabdgcdaaDoor
namespace Go.Proofs.YtnpacofabdgcdaaDoor
open Go Go.V
set_option linter.unusedSimpArgs false
set_option linter.unusedVariables false
set_option maxRecDepth 100000
set_option maxRecDepth 100000 in
theorem stableRecovers_lifted (os : Os) (started : os.Started) (H : Type) (enc : TypeId × Value → H) :
    ReturnsInHanded {} Tryd.checked os 16 .any (fun w args => (Rows.stableRecoversSpec.pre enc Tryd.prog Tryd.f16 [] false w args ∧ laidMetH Tryd.prog Rows.stableRecoversRow.laid w) ∧ sizedMet enc Tryd.prog Tryd.f16 (OpenSpec.ofChange Rows.stableRecoversSpec) false w args)
      (Rows.stableRecoversSpec.post enc Tryd.prog Tryd.f16 false true false false) :=
  law_liftedL (C := Tryd.checked) (laid := Rows.stableRecoversRow.laid) ownKnobT started (by kernel_rfl) Tryd.func16
    (ChangeSpec.witness_shaped (enc := enc) (C := Tryd.checked) (os := os) (X := fun w _ => laidMetH Tryd.prog Rows.stableRecoversRow.laid w) false (World.doorLaid Tryd.prog 87 os) #[.agg [.slice none 0 0, .int .i64 0].toArray] 12 rfl (doorShaped os _) (by kernel_rfl) (by kernel_rfl) (by kernel_rfl) (doorSha os _))
    laidOutT (by kernel_rfl) (by kernel_rfl) (tb := 4) rfl Tryd.underlying4 rfl (fun ds hd => by
      have hl : ds.length = 1 := hd
      match ds, hl with
      | [d0], _ => rfl) (fun W h => shaTab h) stableRecovers_ok
theorem stableRecovers_said : Rows.StableRecoversSaid :=
  OpenClaim.holds_of_wide 16 Tryd.f16 rfl rfl rfl rfl rfl rfl rfl ⟨rfl, rfl, rfl, rfl, rfl⟩ rfl rfl rfl rfl rfl (by kernel_rfl) Tryd.func16 (show joinedFacts Tryd.prog 16 Tryd.f16 Rows.stableRecoversSpec Rows.stableRecoversRow = true by unfold joinedFacts; rw [makeT, enterT, liftsT]; kernel_rfl)
    (of_decide_eq_true (by kernel_rfl)) (by unfold Func.isWrapper; rw [if_neg (of_decide_eq_false (by kernel_rfl))]; exact ⟨rfl, rfl⟩)
    (fun os started H enc _ => stableRecovers_lifted os started H enc)
theorem stableRecovers_plain (f : FuncId) (fn : Func) (hf : Tryd.pinned.checked.prog.funcNamed "conclave/conclavelaw.StableRecovers" = some f) (hfn : Tryd.pinned.checked.prog.funcs[f]? = some fn) :
    true = Tryd.pinned.checked.prog.looks [] ∧ ∀ (j : Nat) t, fn.params[j]? = some t → Tryd.pinned.checked.prog.wantsStandIn t = false := by
  obtain rfl : f = 16 := Option.some.inj ((show Tryd.prog.funcNamed "conclave/conclavelaw.StableRecovers" = some 16 by kernel_rfl).symm.trans hf) |>.symm
  obtain rfl : fn = Tryd.f16 := (Option.some.inj (Tryd.func16.symm.trans hfn)).symm
  refine ⟨by kernel_rfl, fun j t ht => ?_⟩
  have hm : t ∈ Tryd.f16.params.toList := by simpa using Array.mem_of_getElem? ht
  have hall : (Tryd.f16.params.toList.all fun u => !Tryd.prog.wantsStandIn u) = true := by kernel_rfl
  exact (show Tryd.prog.wantsStandIn t = false by simpa using List.all_eq_true.1 hall t hm)
theorem stableRecovers_card : Rows.StableRecoversCardSaid :=
  Claim7.holds_tied_plain_at .later [] _ _ _ _ stableRecovers_said (fun _ h => by cases h) (by kernel_rfl) (fun _ h => by cases h) stableRecovers_row_tie rfl ⟨rfl, rfl⟩ (main_words (L := headCodes.map Char.ofNat) (by kernel_rfl) (by kernel_rfl)) rfl stableRecovers_plain (by kernel_rfl)
end Go.Proofs.YtnpacofabdgcdaaDoor
