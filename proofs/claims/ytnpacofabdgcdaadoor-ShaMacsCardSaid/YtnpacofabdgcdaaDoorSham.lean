/- ShaMacs holds: sha.Mac answers what the document says, at every argument; the table of numbers as the program lays it. -/
import Derived.Test.YtnpacofabdgcdaaDoorShn
import Derived.Test.YtnpacofabdgcdaaDoorCards
import Derived.Test.YtnpacofabdgcdaaDoorTie
namespace Go.Proofs.YtnpacofabdgcdaaDoor
open Go Go.V
set_option linter.unusedSimpArgs false
set_option linter.unusedVariables false
set_option maxRecDepth 100000
theorem shaMacs_ok : LawOkL Tryd.prog Tk 5 Tryd.f5.params.toList := by
  intro T args tk hfit
  rw [show Tryd.f5.params.toList = [29, 29] from rfl] at hfit
  obtain ⟨v, _, rfl, ⟨k1, h1⟩, hfit⟩ := fitAll_cons hfit
  obtain ⟨u, _, rfl, ⟨k2, h2⟩, hfit⟩ := fitAll_cons hfit
  obtain rfl := fitAll_nil hfit
  obtain ⟨key, s, hl⟩ := fit_bytes Tryd.underlying29 Tryd.underlying5 (by kernel_rfl) (by kernel_rfl) (fitV_one ta29 h1)
  obtain ⟨b, sb, hb⟩ := fit_bytes Tryd.underlying29 Tryd.underlying5 (by kernel_rfl) (by kernel_rfl) (fitV_one ta29 h2)
  generalize T.heap = h at *
  refine CallsH.of_code' (args := [_, _]) Tryd.func5 rfl rfl rfl rfl ?_
  simp (config := {maxSteps := 2000000, implicitDefEqProofs := false}) only [go_sem, ↓reduceIte, Nat.reduceEqDiff, Nat.reduceAdd, Nat.reduceMul, Nat.reduceLeDiff, Nat.reduceLT, Nat.reduceSub, IntWalk.iteOmega, IntWalk.toNatUp, reduceCtorEq, false_and, and_false, false_or, or_false, true_or, or_true, not_true_eq_false, not_false_eq_true, Bool.not_true, Bool.not_false, Bool.and_true, Bool.true_and, Bool.and_false, Bool.false_and, Bool.not_eq_true, beq_self_eq_true, Nat.add_zero, Int.reduceLE, Int.reduceLT, Int.reduceToNat, Int.reduceNeg]
  refine (octets_ok T _ _ _ s hl).use ?_
  rintro v0 h0 ⟨o0, b0⟩
  simp (config := {maxSteps := 2000000, implicitDefEqProofs := false}) only [go_sem, ↓reduceIte, Nat.reduceEqDiff, Nat.reduceAdd, Nat.reduceMul, Nat.reduceLeDiff, Nat.reduceLT, Nat.reduceSub, IntWalk.iteOmega, IntWalk.toNatUp, reduceCtorEq, false_and, and_false, false_or, or_false, true_or, or_true, not_true_eq_false, not_false_eq_true, Bool.not_true, Bool.not_false, Bool.and_true, Bool.true_and, Bool.and_false, Bool.false_and, Bool.not_eq_true, beq_self_eq_true, Nat.add_zero, Int.reduceLE, Int.reduceLT, Int.reduceToNat, Int.reduceNeg]
  refine (octets_ok T _ _ _ (sb.bel b0) hb).use ?_
  rintro v1 h1 ⟨o1, b1⟩
  have B1 := b0.trans (b1.mono b0.size)
  simp (config := {maxSteps := 2000000, implicitDefEqProofs := false}) only [go_sem, ↓reduceIte, Nat.reduceEqDiff, Nat.reduceAdd, Nat.reduceMul, Nat.reduceLeDiff, Nat.reduceLT, Nat.reduceSub, IntWalk.iteOmega, IntWalk.toNatUp, reduceCtorEq, false_and, and_false, false_or, or_false, true_or, or_true, not_true_eq_false, not_false_eq_true, Bool.not_true, Bool.not_false, Bool.and_true, Bool.true_and, Bool.and_false, Bool.false_and, Bool.not_eq_true, beq_self_eq_true, Nat.add_zero, Int.reduceLE, Int.reduceLT, Int.reduceToNat, Int.reduceNeg]
  refine (shaMac_ok T _ _ _ key b (o0.bs.bel b1) o1.bs (tk.bels B1)).use ?_
  rintro _ h2 ⟨⟨w2, rfl, o2⟩, b2⟩
  have B2 := B1.trans (b2.mono B1.size)
  obtain ⟨E, hE⟩ : ∃ E, E = macErr key.length b.length := ⟨_, rfl⟩
  rw [← hE] at o2 ⊢
  simp (config := {maxSteps := 2000000, implicitDefEqProofs := false}) only [go_sem, ↓reduceIte, Nat.reduceEqDiff, Nat.reduceAdd, Nat.reduceMul, Nat.reduceLeDiff, Nat.reduceLT, Nat.reduceSub, IntWalk.iteOmega, IntWalk.toNatUp, reduceCtorEq, false_and, and_false, false_or, or_false, true_or, or_true, not_true_eq_false, not_false_eq_true, Bool.not_true, Bool.not_false, Bool.and_true, Bool.true_and, Bool.and_false, Bool.false_and, Bool.not_eq_true, beq_self_eq_true, Nat.add_zero, Int.reduceLE, Int.reduceLT, Int.reduceToNat, Int.reduceNeg]
  refine (macOf_ok T _ _ _ key b (s.bel B2) (sb.bel B2)).use ?_
  rintro _ h3 ⟨⟨w3, rfl, o3⟩, b3⟩
  have B3 := B2.trans (b3.mono B2.size)
  rw [← hE] at o3 ⊢
  simp (config := {maxSteps := 2000000, implicitDefEqProofs := false}) only [go_sem, ↓reduceIte, Nat.reduceEqDiff, Nat.reduceAdd, Nat.reduceMul, Nat.reduceLeDiff, Nat.reduceLT, Nat.reduceSub, IntWalk.iteOmega, IntWalk.toNatUp, reduceCtorEq, false_and, and_false, false_or, or_false, true_or, or_true, not_true_eq_false, not_false_eq_true, Bool.not_true, Bool.not_false, Bool.and_true, Bool.true_and, Bool.and_false, Bool.false_and, Bool.not_eq_true, beq_self_eq_true, Nat.add_zero, Int.reduceLE, Int.reduceLT, Int.reduceToNat, Int.reduceNeg]
  refine (sameBytes_ok T _ _ _ _ _ (o2.bs.bel b3) o3.bs).pure ?_
  simp (config := {contextual := true, maxSteps := 2000000, implicitDefEqProofs := false}) only [go_sem, ↓reduceIte, Nat.reduceEqDiff, Nat.reduceAdd, Nat.reduceMul, Nat.reduceLeDiff, Nat.reduceLT, Nat.reduceSub, IntWalk.iteOmega, IntWalk.toNatUp, reduceCtorEq, false_and, and_false, false_or, or_false, true_or, or_true, not_true_eq_false, not_false_eq_true, Bool.not_true, Bool.not_false, Bool.and_true, Bool.true_and, Bool.and_false, Bool.false_and, Bool.not_eq_true, beq_self_eq_true, Nat.add_zero, Int.reduceLE, Int.reduceLT, Int.reduceToNat, Int.reduceNeg]
  exact B3
set_option maxRecDepth 100000 in
theorem shaMacs_lifted (os : Os) (started : os.Started) (H : Type) (enc : TypeId × Value → H) :
    ReturnsInHanded {} Tryd.checked os 5 .any (fun w args => (Rows.shaMacsSpec.pre enc Tryd.prog Tryd.f5 [] false w args ∧ laidMetH Tryd.prog Rows.shaMacsRow.laid w) ∧ sizedMet enc Tryd.prog Tryd.f5 (OpenSpec.ofChange Rows.shaMacsSpec) false w args)
      (Rows.shaMacsSpec.post enc Tryd.prog Tryd.f5 false true false false) :=
  law_liftedL (C := Tryd.checked) (laid := Rows.shaMacsRow.laid) ownKnobT started (by kernel_rfl) Tryd.func5
    (ChangeSpec.witness_shaped (enc := enc) (C := Tryd.checked) (os := os) (X := fun w _ => laidMetH Tryd.prog Rows.shaMacsRow.laid w) false (World.doorLaid Tryd.prog 87 os) #[.slice none 0 0, .slice none 0 0] 12 rfl (doorShaped os _) (by kernel_rfl) (by kernel_rfl) (by kernel_rfl) (doorSha os _))
    laidOutT (by kernel_rfl) (by kernel_rfl) (tb := 4) rfl Tryd.underlying4 rfl (fun ds hd => by
      have hl : ds.length = 2 := hd
      match ds, hl with
      | [d0, d1], _ => rfl) (fun W h => shaTab h) shaMacs_ok
theorem shaMacs_said : Rows.ShaMacsSaid :=
  OpenClaim.holds_of_wide 5 Tryd.f5 rfl rfl rfl rfl rfl rfl rfl ⟨rfl, rfl, rfl, rfl, rfl⟩ rfl rfl rfl rfl rfl (by kernel_rfl) Tryd.func5 (show joinedFacts Tryd.prog 5 Tryd.f5 Rows.shaMacsSpec Rows.shaMacsRow = true by unfold joinedFacts; rw [makeT, enterT, liftsT]; kernel_rfl)
    (of_decide_eq_true (by kernel_rfl)) (by unfold Func.isWrapper; rw [if_neg (of_decide_eq_false (by kernel_rfl))]; exact ⟨rfl, rfl⟩)
    (fun os started H enc _ => shaMacs_lifted os started H enc)
theorem shaMacs_plain (f : FuncId) (fn : Func) (hf : Tryd.pinned.checked.prog.funcNamed "conclave/conclavelaw.ShaMacs" = some f) (hfn : Tryd.pinned.checked.prog.funcs[f]? = some fn) :
    true = Tryd.pinned.checked.prog.looks [] ∧ ∀ (j : Nat) t, fn.params[j]? = some t → Tryd.pinned.checked.prog.wantsStandIn t = false := by
  obtain rfl : f = 5 := Option.some.inj ((show Tryd.prog.funcNamed "conclave/conclavelaw.ShaMacs" = some 5 by kernel_rfl).symm.trans hf) |>.symm
  obtain rfl : fn = Tryd.f5 := (Option.some.inj (Tryd.func5.symm.trans hfn)).symm
  refine ⟨by kernel_rfl, fun j t ht => ?_⟩
  have hm : t ∈ Tryd.f5.params.toList := by simpa using Array.mem_of_getElem? ht
  have hall : (Tryd.f5.params.toList.all fun u => !Tryd.prog.wantsStandIn u) = true := by kernel_rfl
  exact (show Tryd.prog.wantsStandIn t = false by simpa using List.all_eq_true.1 hall t hm)
theorem shaMacs_card : Rows.ShaMacsCardSaid :=
  Claim7.holds_tied_plain_at .later [] _ _ _ _ shaMacs_said (fun _ h => by cases h) (by kernel_rfl) (fun _ h => by cases h) shaMacs_row_tie rfl ⟨rfl, rfl⟩ (by kernel_rfl) rfl shaMacs_plain (by kernel_rfl)
end Go.Proofs.YtnpacofabdgcdaaDoor
