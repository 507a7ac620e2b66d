/- StableVotes holds: stable.Vote answers what the document says, at every argument; the table of numbers as the program lays it. -/
import Derived.Test.YtnpacofabdgcdaaDoorSvt
import Derived.Test.YtnpacofabdgcdaaDoorCards
import Derived.Test.YtnpacofabdgcdaaDoorTie
namespace Go.Proofs.YtnpacofabdgcdaaDoor
open Go Go.V
set_option linter.unusedSimpArgs false
set_option linter.unusedVariables false
set_option maxRecDepth 100000
theorem stableVotes_ok : LawOkL Tryd.prog Tk 15 Tryd.f15.params.toList := by
  intro T args tk hfit
  rw [show Tryd.f15.params.toList = [65, 80] from rfl] at hfit
  obtain ⟨v, _, rfl, ⟨k1, h1⟩, hfit⟩ := fitAll_cons hfit
  obtain ⟨vb, _, rfl, ⟨k2, h2⟩, hfit⟩ := fitAll_cons hfit
  obtain rfl := fitAll_nil hfit
  obtain ⟨w, n, l, rfl, s, hl, hcap⟩ := tapeArg h1
  obtain ⟨cb, rfl, hlb, hfb⟩ := fitV_struct (l := rep 8 [3]) Tryd.underlying80 (by kernel_rfl) (by kernel_rfl) h2
  obtain ⟨a0, _, rfl, _, _, hfb⟩ := fitL_int Tryd.underlying3 hfb
  obtain ⟨a1, _, rfl, _, _, hfb⟩ := fitL_int Tryd.underlying3 hfb
  obtain ⟨a2, _, rfl, _, _, hfb⟩ := fitL_int Tryd.underlying3 hfb
  obtain ⟨a3, _, rfl, _, _, hfb⟩ := fitL_int Tryd.underlying3 hfb
  obtain ⟨a4, _, rfl, _, _, hfb⟩ := fitL_int Tryd.underlying3 hfb
  obtain ⟨a5, _, rfl, _, _, hfb⟩ := fitL_int Tryd.underlying3 hfb
  obtain ⟨a6, _, rfl, _, _, hfb⟩ := fitL_int Tryd.underlying3 hfb
  obtain ⟨a7, _, rfl, _, _, hfb⟩ := fitL_int Tryd.underlying3 hfb
  obtain rfl := fitL_nil hfb
  clear h1 h2
  generalize T.heap = h at *
  obtain ⟨p, c, rfl, hc1⟩ := s.open
  refine CallsH.of_code' (args := [_, _]) Tryd.func15 rfl rfl rfl rfl ?_
  simp (config := {maxSteps := 2000000, implicitDefEqProofs := false}) only [go_sem, ↓reduceIte, Nat.reduceEqDiff, Nat.reduceAdd, Nat.reduceMul, Nat.reduceLeDiff, Nat.reduceLT, Nat.reduceSub, IntWalk.iteOmega, IntWalk.toNatUp, reduceCtorEq, false_and, and_false, false_or, or_false, true_or, or_true, not_true_eq_false, not_false_eq_true, Bool.not_true, Bool.not_false, Bool.and_true, Bool.true_and, Bool.and_false, Bool.false_and, Bool.not_eq_true, beq_self_eq_true, Nat.add_zero, Int.reduceLE, Int.reduceLT, Int.reduceToNat, Int.reduceNeg]
  obtain ⟨h0, hh0⟩ : ∃ h0 : Hp, h0 = (h.push (.cells [.slice p l.length c, .int .i64 n].toArray 65)).push (.cells [.int .i64 a0, .int .i64 a1, .int .i64 a2, .int .i64 a3, .int .i64 a4, .int .i64 a5, .int .i64 a6, .int .i64 a7].toArray 80) := ⟨_, rfl⟩
  have b0 : Bel h.size h h0 := by rw [hh0]; exact ((Bel.refl _ _).add _).add _
  have s0 : h0.size = h.size + 2 := by rw [hh0]; simp
  have t0 : h0[h.size]? = some (.cells [.slice p l.length c, .int .i64 n].toArray 65) := by
    rw [hh0, Array.getElem?_push, if_neg (by simp), get_push_last]
  have t1 : h0[h.size + 1]? = some (.cells [.int .i64 a0, .int .i64 a1, .int .i64 a2, .int .i64 a3, .int .i64 a4, .int .i64 a5, .int .i64 a6, .int .i64 a7].toArray 80) := by
    rw [hh0, Array.getElem?_push, if_pos (by simp)]
  rw [← hh0]
  clear hh0
  refine (tapes_ok T h0 _ n l (s.bel b0) hl).use ?_
  rintro _ h1 ⟨w1, rfl, o1, b1⟩
  have B1 := b0.trans (b1.mono b0.size)
  have z1 := b1.size
  obtain ⟨p1, c1, rfl, _⟩ := o1.bs.open
  have t01 := b1.get (by omega) t0
  have t11 := b1.get (by omega) t1
  have r11 := rd_last t11 (n := 8) rfl
  have e11 : ¬ h.size + 1 = h1.size := by omega
  simp (config := {maxSteps := 2000000, implicitDefEqProofs := false}) only [go_sem, ↓reduceIte, Nat.reduceEqDiff, Nat.reduceAdd, Nat.reduceMul, Nat.reduceLeDiff, Nat.reduceLT, Nat.reduceSub, IntWalk.iteOmega, IntWalk.toNatUp, reduceCtorEq, false_and, and_false, false_or, or_false, true_or, or_true, not_true_eq_false, not_false_eq_true, Bool.not_true, Bool.not_false, Bool.and_true, Bool.true_and, Bool.and_false, Bool.false_and, Bool.not_eq_true, beq_self_eq_true, Nat.add_zero, Int.reduceLE, Int.reduceLT, Int.reduceToNat, Int.reduceNeg, r11, e11]
  obtain ⟨h2, hh2⟩ : ∃ h2 : Hp, h2 = h1.push (.cells [.slice p1 l.length c1, .int .i64 n].toArray 65) := ⟨_, rfl⟩
  have b2 : Bel h1.size h1 h2 := by rw [hh2]; exact Bel.push (Nat.le_refl _) _
  have z2 : h2.size = h1.size + 1 := by rw [hh2]; simp
  have x2 : h2[h1.size]? = some (.cells [.slice p1 l.length c1, .int .i64 n].toArray 65) := by rw [hh2]; exact get_push_last
  have eh2 : h1.push (.cells #[Value.slice p1 l.length c1, .int .i64 n] 65) = h2 := hh2.symm
  rw [eh2]
  clear eh2 hh2
  have B2 := B1.trans (b2.mono B1.size)
  refine (sVote_ok T h2 _ n l ⟨a0, ⟨a1, a2⟩, a3, a4, a5, a6, a7⟩ ((o1.bel b2 (Nat.le_refl _)).bs) hl (tk.bels B2)).use ?_
  rintro _ h3 ⟨⟨w3, rfl, o3⟩, b3⟩
  obtain ⟨E, hE⟩ : ∃ E, E = votErr l n ⟨a0, ⟨a1, a2⟩, a3, a4, a5, a6, a7⟩ := ⟨_, rfl⟩
  rw [← hE] at o3 ⊢
  obtain ⟨z, hz⟩ : ∃ z : Int, z = if E = 0 then n else 0 := ⟨_, rfl⟩
  rw [← hz]
  obtain ⟨L, hL⟩ : ∃ L : List Nat, L = if E = 0 then l ++ frmS (votB ⟨a0, ⟨a1, a2⟩, a3, a4, a5, a6, a7⟩) else [] := ⟨_, rfl⟩
  rw [← hL] at o3
  obtain ⟨p3, c3, rfl, _⟩ := o3.open
  have B3 := B2.trans (b3.mono B2.size)
  have z3 := b3.size
  have t03 := b3.get (by omega) (b2.get (by omega) t01)
  have t13 := b3.get (by omega) (b2.get (by omega) t11)
  have x3 := b3.get (by omega) x2
  have r03 := rd_last t03 (n := 2) rfl
  have r13 := rd_last t13 (n := 8) rfl
  have e03 : ¬ h.size = h3.size := by omega
  have e13 : ¬ h.size + 1 = h3.size := by omega
  simp (config := {maxSteps := 2000000, implicitDefEqProofs := false}) only [go_sem, ↓reduceIte, Nat.reduceEqDiff, Nat.reduceAdd, Nat.reduceMul, Nat.reduceLeDiff, Nat.reduceLT, Nat.reduceSub, IntWalk.iteOmega, IntWalk.toNatUp, reduceCtorEq, false_and, and_false, false_or, or_false, true_or, or_true, not_true_eq_false, not_false_eq_true, Bool.not_true, Bool.not_false, Bool.and_true, Bool.true_and, Bool.and_false, Bool.false_and, Bool.not_eq_true, beq_self_eq_true, Nat.add_zero, Int.reduceLE, Int.reduceLT, Int.reduceToNat, Int.reduceNeg, r03, r13, e03, e13]
  obtain ⟨h4, hh4⟩ : ∃ h4 : Hp, h4 = h3.push (.cells [.slice p3 L.length c3, .int .i64 z].toArray 65) := ⟨_, rfl⟩
  have b4 : Bel h3.size h3 h4 := by rw [hh4]; exact Bel.push (Nat.le_refl _) _
  have z4 : h4.size = h3.size + 1 := by rw [hh4]; simp
  have x4 : h4[h3.size]? = some (.cells [.slice p3 L.length c3, .int .i64 z].toArray 65) := by rw [hh4]; exact get_push_last
  have eh4 : h3.push (.cells #[Value.slice p3 L.length c3, .int .i64 z] 65) = h4 := hh4.symm
  rw [eh4]
  clear eh4 hh4
  have B4 := B3.trans (b4.mono B3.size)
  refine (voteOn_ok T h4 _ n l ⟨a0, ⟨a1, a2⟩, a3, a4, a5, a6, a7⟩ (s.bel B4)).use ?_
  rintro _ h5 ⟨⟨w5, rfl, o5⟩, b5⟩
  rw [← hE] at o5 ⊢
  rw [← hz]
  rw [← hL] at o5
  obtain ⟨p5, c5, rfl, _⟩ := o5.open
  have B5 := B4.trans (b5.mono B4.size)
  have z5 := b5.size
  have t05 := b5.get (by omega) (b4.get (by omega) t03)
  have x35 := b5.get (by omega) (b4.get (by omega) x3)
  have x45 := b5.get (by omega) x4
  have r05 := rd_last t05 (n := 2) rfl
  have r35 := rd_last x35 (n := 2) rfl
  have r45 := rd_last x45 (n := 2) rfl
  have e05 : ¬ h.size = h5.size := by omega
  have e35 : ¬ h1.size = h5.size := by omega
  have e45 : ¬ h3.size = h5.size := by omega
  simp (config := {maxSteps := 2000000, implicitDefEqProofs := false}) only [go_sem, ↓reduceIte, Nat.reduceEqDiff, Nat.reduceAdd, Nat.reduceMul, Nat.reduceLeDiff, Nat.reduceLT, Nat.reduceSub, IntWalk.iteOmega, IntWalk.toNatUp, reduceCtorEq, false_and, and_false, false_or, or_false, true_or, or_true, not_true_eq_false, not_false_eq_true, Bool.not_true, Bool.not_false, Bool.and_true, Bool.true_and, Bool.and_false, Bool.false_and, Bool.not_eq_true, beq_self_eq_true, Nat.add_zero, Int.reduceLE, Int.reduceLT, Int.reduceToNat, Int.reduceNeg, r05, r35, r45, e05, e35, e45]
  have b35 : Bel h3.size h3 h5 := b4.trans (b5.mono (by omega))
  have pB := Bel.push (Nat.le_refl h5.size) (Obj.cells [.slice p5 L.length c5, .int .i64 z].toArray 65)
  refine (sameTape_ok T _ _ _ z z L L ((o3.bs.bel b35).bel pB) (o5.bs.bel pB)).use ?_
  rintro _ h6 ⟨rfl, b6⟩
  have B6 : Bel h5.size h5 h6 := pB.trans (b6.mono (by simp))
  have z6 := B6.size
  have t06 := B6.get (by omega) t05
  have x36 := B6.get (by omega) x35
  have r06 := rd_last t06 (n := 2) rfl
  have r36 := rd_last x36 (n := 2) rfl
  simp (config := {maxSteps := 2000000, implicitDefEqProofs := false}) only [go_sem, ↓reduceIte, Nat.reduceEqDiff, Nat.reduceAdd, Nat.reduceMul, Nat.reduceLeDiff, Nat.reduceLT, Nat.reduceSub, IntWalk.iteOmega, IntWalk.toNatUp, reduceCtorEq, false_and, and_false, false_or, or_false, true_or, or_true, not_true_eq_false, not_false_eq_true, Bool.not_true, Bool.not_false, Bool.and_true, Bool.true_and, Bool.and_false, Bool.false_and, Bool.not_eq_true, beq_self_eq_true, Nat.add_zero, Int.reduceLE, Int.reduceLT, Int.reduceToNat, Int.reduceNeg, r06, r36]
  have B16 : Bel h1.size h1 h6 := b2.trans ((b3.mono (by omega)).trans ((b4.mono (by omega)).trans ((b5.mono (by omega)).trans (B6.mono (by omega)))))
  have BB6 := B5.trans (B6.mono B5.size)
  refine (sameTape_ok T _ _ _ n n l l ((o1.bel B16 (Nat.le_refl _)).bs) (s.bel BB6)).use ?_
  rintro _ h7 ⟨rfl, b7⟩
  simp (config := {maxSteps := 2000000, implicitDefEqProofs := false}) only [go_sem, ↓reduceIte, Nat.reduceEqDiff, Nat.reduceAdd, Nat.reduceMul, Nat.reduceLeDiff, Nat.reduceLT, Nat.reduceSub, IntWalk.iteOmega, IntWalk.toNatUp, reduceCtorEq, false_and, and_false, false_or, or_false, true_or, or_true, not_true_eq_false, not_false_eq_true, Bool.not_true, Bool.not_false, Bool.and_true, Bool.true_and, Bool.and_false, Bool.false_and, Bool.not_eq_true, beq_self_eq_true, Nat.add_zero, Int.reduceLE, Int.reduceLT, Int.reduceToNat, Int.reduceNeg]
  exact BB6.trans (b7.mono BB6.size)
end Go.Proofs.YtnpacofabdgcdaaDoor
namespace Go.Proofs.YtnpacofabdgcdaaDoor
open Go Go.V
set_option linter.unusedSimpArgs false
set_option linter.unusedVariables false
set_option maxRecDepth 100000
set_option maxRecDepth 100000 in
theorem stableVotes_lifted (os : Os) (started : os.Started) (H : Type) (enc : TypeId × Value → H) :
    ReturnsInHanded {} Tryd.checked os 15 .any (fun w args => (Rows.stableVotesSpec.pre enc Tryd.prog Tryd.f15 [] false w args ∧ laidMetH Tryd.prog Rows.stableVotesRow.laid w) ∧ sizedMet enc Tryd.prog Tryd.f15 (OpenSpec.ofChange Rows.stableVotesSpec) false w args)
      (Rows.stableVotesSpec.post enc Tryd.prog Tryd.f15 false true false false) :=
  law_liftedL (C := Tryd.checked) (laid := Rows.stableVotesRow.laid) ownKnobT started (by kernel_rfl) Tryd.func15
    (ChangeSpec.witness_shaped (enc := enc) (C := Tryd.checked) (os := os) (X := fun w _ => laidMetH Tryd.prog Rows.stableVotesRow.laid w) false (World.doorLaid Tryd.prog 87 os) #[.agg [.slice none 0 0, .int .i64 0].toArray, .agg (rep 8 [Value.int .i64 0]).toArray] 12 rfl (doorShaped os _) (by kernel_rfl) (by kernel_rfl) (by kernel_rfl) (doorSha os _))
    laidOutT (by kernel_rfl) (by kernel_rfl) (tb := 4) rfl Tryd.underlying4 rfl (fun ds hd => by
      have hl : ds.length = 2 := hd
      match ds, hl with
      | [d0, d1], _ => rfl) (fun W h => shaTab h) stableVotes_ok
theorem stableVotes_said : Rows.StableVotesSaid :=
  OpenClaim.holds_of_wide 15 Tryd.f15 rfl rfl rfl rfl rfl rfl rfl ⟨rfl, rfl, rfl, rfl, rfl⟩ rfl rfl rfl rfl rfl (by kernel_rfl) Tryd.func15 (show joinedFacts Tryd.prog 15 Tryd.f15 Rows.stableVotesSpec Rows.stableVotesRow = true by unfold joinedFacts; rw [makeT, enterT, liftsT]; kernel_rfl)
    (of_decide_eq_true (by kernel_rfl)) (by unfold Func.isWrapper; rw [if_neg (of_decide_eq_false (by kernel_rfl))]; exact ⟨rfl, rfl⟩)
    (fun os started H enc _ => stableVotes_lifted os started H enc)
theorem stableVotes_plain (f : FuncId) (fn : Func) (hf : Tryd.pinned.checked.prog.funcNamed "conclave/conclavelaw.StableVotes" = some f) (hfn : Tryd.pinned.checked.prog.funcs[f]? = some fn) :
    true = Tryd.pinned.checked.prog.looks [] ∧ ∀ (j : Nat) t, fn.params[j]? = some t → Tryd.pinned.checked.prog.wantsStandIn t = false := by
  obtain rfl : f = 15 := Option.some.inj ((show Tryd.prog.funcNamed "conclave/conclavelaw.StableVotes" = some 15 by kernel_rfl).symm.trans hf) |>.symm
  obtain rfl : fn = Tryd.f15 := (Option.some.inj (Tryd.func15.symm.trans hfn)).symm
  refine ⟨by kernel_rfl, fun j t ht => ?_⟩
  have hm : t ∈ Tryd.f15.params.toList := by simpa using Array.mem_of_getElem? ht
  have hall : (Tryd.f15.params.toList.all fun u => !Tryd.prog.wantsStandIn u) = true := by kernel_rfl
  exact (show Tryd.prog.wantsStandIn t = false by simpa using List.all_eq_true.1 hall t hm)
theorem stableVotes_card : Rows.StableVotesCardSaid :=
  Claim7.holds_tied_plain_at .later [] _ _ _ _ stableVotes_said (fun _ h => by cases h) (by kernel_rfl) (fun _ h => by cases h) stableVotes_row_tie rfl ⟨rfl, rfl⟩ (main_words (L := headCodes.map Char.ofNat) (by kernel_rfl) (by kernel_rfl)) rfl stableVotes_plain (by kernel_rfl)
end Go.Proofs.YtnpacofabdgcdaaDoor
