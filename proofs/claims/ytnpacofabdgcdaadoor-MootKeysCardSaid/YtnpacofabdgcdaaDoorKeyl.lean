/- MootKeys holds: moot.Key answers what the document says, at every argument; the table of numbers as the program lays it. -/
import Derived.Test.YtnpacofabdgcdaaDoorKey
import Derived.Test.YtnpacofabdgcdaaDoorCards
import Derived.Test.YtnpacofabdgcdaaDoorTie
namespace Go.Proofs.YtnpacofabdgcdaaDoor
open Go Go.V
set_option linter.unusedSimpArgs false
set_option linter.unusedVariables false
set_option maxRecDepth 100000
theorem mootKeys_ok : LawOkL Tryd.prog Tk 8 Tryd.f8.params.toList := by
  intro T args tk hfit
  rw [show Tryd.f8.params.toList = [3] from rfl] at hfit
  obtain ⟨o, _, rfl, ⟨k4, h4⟩, hfit⟩ := fitAll_cons hfit
  obtain rfl := fitAll_nil hfit
  obtain ⟨n, hkv, _⟩ := fit_int Tryd.underlying3 (fitV_one ta3 h4)
  obtain rfl : o = .int .i64 n := by simpa using hkv
  generalize T.heap = h at *
  refine CallsH.of_code' (args := [_]) Tryd.func8 rfl rfl rfl rfl ?_
  simp (config := {maxSteps := 2000000, implicitDefEqProofs := false}) only [go_sem, ↓reduceIte, Nat.reduceEqDiff, Nat.reduceAdd, Nat.reduceMul, Nat.reduceLeDiff, Nat.reduceLT, Nat.reduceSub, IntWalk.iteOmega, IntWalk.toNatUp, reduceCtorEq, false_and, and_false, false_or, or_false, true_or, or_true, not_true_eq_false, not_false_eq_true, Bool.not_true, Bool.not_false, Bool.and_true, Bool.true_and, Bool.and_false, Bool.false_and, Bool.not_eq_true, beq_self_eq_true, Nat.add_zero, Int.reduceLE, Int.reduceLT, Int.reduceToNat, Int.reduceNeg]
  refine (mootKey_ok T _ n tk).use ?_
  rintro _ h1 ⟨⟨w1, rfl, _, o1⟩, b1⟩
  obtain ⟨E, hE⟩ : ∃ E, E = keyErr n := ⟨_, rfl⟩
  rw [← hE] at o1 ⊢
  simp (config := {maxSteps := 2000000, implicitDefEqProofs := false}) only [go_sem, ↓reduceIte, Nat.reduceEqDiff, Nat.reduceAdd, Nat.reduceMul, Nat.reduceLeDiff, Nat.reduceLT, Nat.reduceSub, IntWalk.iteOmega, IntWalk.toNatUp, reduceCtorEq, false_and, and_false, false_or, or_false, true_or, or_true, not_true_eq_false, not_false_eq_true, Bool.not_true, Bool.not_false, Bool.and_true, Bool.true_and, Bool.and_false, Bool.false_and, Bool.not_eq_true, beq_self_eq_true, Nat.add_zero, Int.reduceLE, Int.reduceLT, Int.reduceToNat, Int.reduceNeg]
  refine (clientKey_ok T _ n).use ?_
  rintro _ h2 ⟨⟨w2, rfl, _, o2⟩, b2⟩
  have B2 := b1.trans (b2.mono b1.size)
  rw [← hE] at o2 ⊢
  generalize cliS n.toNat = KS at *
  simp (config := {maxSteps := 2000000, implicitDefEqProofs := false}) only [go_sem, ↓reduceIte, Nat.reduceEqDiff, Nat.reduceAdd, Nat.reduceMul, Nat.reduceLeDiff, Nat.reduceLT, Nat.reduceSub, IntWalk.iteOmega, IntWalk.toNatUp, reduceCtorEq, false_and, and_false, false_or, or_false, true_or, or_true, not_true_eq_false, not_false_eq_true, Bool.not_true, Bool.not_false, Bool.and_true, Bool.true_and, Bool.and_false, Bool.false_and, Bool.not_eq_true, beq_self_eq_true, Nat.add_zero, Int.reduceLE, Int.reduceLT, Int.reduceToNat, Int.reduceNeg]
  refine (sameBytes_ok T _ _ _ _ _ (o1.bel b2) o2).pure ?_
  simp (config := {contextual := true, maxSteps := 2000000, implicitDefEqProofs := false}) only [go_sem, ↓reduceIte, Nat.reduceEqDiff, Nat.reduceAdd, Nat.reduceMul, Nat.reduceLeDiff, Nat.reduceLT, Nat.reduceSub, IntWalk.iteOmega, IntWalk.toNatUp, reduceCtorEq, false_and, and_false, false_or, or_false, true_or, or_true, not_true_eq_false, not_false_eq_true, Bool.not_true, Bool.not_false, Bool.and_true, Bool.true_and, Bool.and_false, Bool.false_and, Bool.not_eq_true, beq_self_eq_true, Nat.add_zero, Int.reduceLE, Int.reduceLT, Int.reduceToNat, Int.reduceNeg]
  exact B2
set_option maxRecDepth 100000 in
theorem mootKeys_lifted (os : Os) (started : os.Started) (H : Type) (enc : TypeId × Value → H) :
    ReturnsInHanded {} Tryd.checked os 8 .any (fun w args => (Rows.mootKeysSpec.pre enc Tryd.prog Tryd.f8 [] false w args ∧ laidMetH Tryd.prog Rows.mootKeysRow.laid w) ∧ sizedMet enc Tryd.prog Tryd.f8 (OpenSpec.ofChange Rows.mootKeysSpec) false w args)
      (Rows.mootKeysSpec.post enc Tryd.prog Tryd.f8 false true false false) :=
  law_liftedL (C := Tryd.checked) (laid := Rows.mootKeysRow.laid) ownKnobT started (by kernel_rfl) Tryd.func8
    (ChangeSpec.witness_shaped (enc := enc) (C := Tryd.checked) (os := os) (X := fun w _ => laidMetH Tryd.prog Rows.mootKeysRow.laid w) false (World.doorLaid Tryd.prog 87 os) #[.int .i64 0] 12 rfl (doorShaped os _) (by kernel_rfl) (by kernel_rfl) (by kernel_rfl) (doorSha os _))
    laidOutT (by kernel_rfl) (by kernel_rfl) (tb := 4) rfl Tryd.underlying4 rfl (fun ds hd => by
      have hl : ds.length = 1 := hd
      match ds, hl with
      | [d0], _ => rfl) (fun W h => shaTab h) mootKeys_ok
theorem mootKeys_said : Rows.MootKeysSaid :=
  OpenClaim.holds_of_wide 8 Tryd.f8 rfl rfl rfl rfl rfl rfl rfl ⟨rfl, rfl, rfl, rfl, rfl⟩ rfl rfl rfl rfl rfl (by kernel_rfl) Tryd.func8 (show joinedFacts Tryd.prog 8 Tryd.f8 Rows.mootKeysSpec Rows.mootKeysRow = true by unfold joinedFacts; rw [makeT, enterT, liftsT]; kernel_rfl)
    (of_decide_eq_true (by kernel_rfl)) (by unfold Func.isWrapper; rw [if_neg (of_decide_eq_false (by kernel_rfl))]; exact ⟨rfl, rfl⟩)
    (fun os started H enc _ => mootKeys_lifted os started H enc)
theorem mootKeys_plain (f : FuncId) (fn : Func) (hf : Tryd.pinned.checked.prog.funcNamed "conclave/conclavelaw.MootKeys" = some f) (hfn : Tryd.pinned.checked.prog.funcs[f]? = some fn) :
    true = Tryd.pinned.checked.prog.looks [] ∧ ∀ (j : Nat) t, fn.params[j]? = some t → Tryd.pinned.checked.prog.wantsStandIn t = false := by
  obtain rfl : f = 8 := Option.some.inj ((show Tryd.prog.funcNamed "conclave/conclavelaw.MootKeys" = some 8 by kernel_rfl).symm.trans hf) |>.symm
  obtain rfl : fn = Tryd.f8 := (Option.some.inj (Tryd.func8.symm.trans hfn)).symm
  refine ⟨by kernel_rfl, fun j t ht => ?_⟩
  have hm : t ∈ Tryd.f8.params.toList := by simpa using Array.mem_of_getElem? ht
  have hall : (Tryd.f8.params.toList.all fun u => !Tryd.prog.wantsStandIn u) = true := by kernel_rfl
  exact (show Tryd.prog.wantsStandIn t = false by simpa using List.all_eq_true.1 hall t hm)
theorem mootKeys_card : Rows.MootKeysCardSaid :=
  Claim7.holds_tied_plain_at .later [] _ _ _ _ mootKeys_said (fun _ h => by cases h) (by kernel_rfl) (fun _ h => by cases h) mootKeys_row_tie rfl ⟨rfl, rfl⟩ (by kernel_rfl) rfl mootKeys_plain (by kernel_rfl)
end Go.Proofs.YtnpacofabdgcdaaDoor
