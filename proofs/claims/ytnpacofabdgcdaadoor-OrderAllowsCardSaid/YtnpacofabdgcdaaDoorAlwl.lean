/- OrderAllows holds: order.Allows answers what the document says, at every argument; the table of needs as the program lays it. -/
import Derived.Test.YtnpacofabdgcdaaDoorTab
import Derived.Test.YtnpacofabdgcdaaDoorCards
import Derived.Test.YtnpacofabdgcdaaDoorTie
namespace Go.Proofs.YtnpacofabdgcdaaDoor
open Go Go.V
set_option linter.unusedSimpArgs false
set_option linter.unusedVariables false
set_option maxRecDepth 100000
theorem orderAllows_ok : LawOkL Tryd.prog (Tab 0 iv needN) 3 Tryd.f3.params.toList := by
  intro T args tn hfit
  rw [show Tryd.f3.params.toList = [23, 25, 3] from rfl] at hfit
  obtain ⟨t, _, rfl, ⟨k1, h1⟩, hfit⟩ := fitAll_cons hfit
  obtain ⟨w, _, rfl, ⟨k2, h2⟩, hfit⟩ := fitAll_cons hfit
  obtain ⟨o, _, rfl, ⟨k3, h3⟩, hfit⟩ := fitAll_cons hfit
  obtain rfl := fitAll_nil hfit
  obtain ⟨cs, rfl, hl, hf⟩ := fitV_struct (l := rep 3 [3]) Tryd.underlying23 (by kernel_rfl) (by kernel_rfl) h1
  obtain ⟨tc, _, rfl, _, _, hf⟩ := fitL_int Tryd.underlying3 hf
  obtain ⟨tr, _, rfl, _, _, hf⟩ := fitL_int Tryd.underlying3 hf
  obtain ⟨tu, _, rfl, _, _, hf⟩ := fitL_int Tryd.underlying3 hf
  obtain rfl := fitL_nil hf
  obtain ⟨cs, rfl, hl, hf⟩ := fitV_struct (l := rep 5 [3]) Tryd.underlying25 (by kernel_rfl) (by kernel_rfl) h2
  obtain ⟨k, _, rfl, _, _, hf⟩ := fitL_int Tryd.underlying3 hf
  obtain ⟨c, _, rfl, _, _, hf⟩ := fitL_int Tryd.underlying3 hf
  obtain ⟨s, _, rfl, _, _, hf⟩ := fitL_int Tryd.underlying3 hf
  obtain ⟨n, _, rfl, _, _, hf⟩ := fitL_int Tryd.underlying3 hf
  obtain ⟨v, _, rfl, _, _, hf⟩ := fitL_int Tryd.underlying3 hf
  obtain rfl := fitL_nil hf
  obtain ⟨now, hkv, _⟩ := fit_int Tryd.underlying3 (fitV_one ta3 h3)
  obtain rfl : o = .int .i64 now := by simpa using hkv
  generalize T.heap = h at *
  refine CallsH.of_code' (args := [_, _, _]) Tryd.func3 rfl rfl rfl rfl ?_
  simp (config := {maxSteps := 2000000, implicitDefEqProofs := false}) only [go_sem, ↓reduceIte, Nat.reduceEqDiff, Nat.reduceAdd, Nat.reduceMul, Nat.reduceLeDiff, Nat.reduceLT, Nat.reduceSub, IntWalk.iteOmega, IntWalk.toNatUp, reduceCtorEq, false_and, and_false, false_or, or_false, true_or, or_true, not_true_eq_false, not_false_eq_true, Bool.not_true, Bool.not_false, Bool.and_true, Bool.true_and, Bool.and_false, Bool.false_and, Bool.not_eq_true, beq_self_eq_true, Nat.add_zero, Int.reduceLE, Int.reduceLT, Int.reduceToNat, Int.reduceNeg]
  refine (allows_ok T _ tc tr tu k c s n v now (tn.bels ?_)).use ?_
  · (repeat' (first | exact Bel.refl _ _ | assumption | refine Bel.add ?_ _ | refine Bel.addSet ?_ (by first | omega | (simp; omega)) _ | refine Bel.trans (by assumption) ?_))
  rintro _ h1 ⟨rfl, b1⟩
  have B1 : Bel h.size h h1 := Bel.trans (by (repeat' (first | exact Bel.refl _ _ | assumption | refine Bel.add ?_ _ | refine Bel.addSet ?_ (by first | omega | (simp; omega)) _ | refine Bel.trans (by assumption) ?_))) (b1.mono (by simp; omega))
  have r1 : rd h1 ⟨h.size, 0, none⟩ 3 = some (tokC tc tr tu) := by
    rw [rd_bel b1 (by simp; omega), rd_push, if_neg (by simp), rd_push, if_pos rfl]; rfl
  have r2 : rd h1 ⟨h.size + 1, 0, none⟩ 5 = some (cmdC k c s n v) := by
    rw [rd_bel b1 (by simp), rd_push, if_pos (by simp)]; rfl
  simp (config := {maxSteps := 2000000, implicitDefEqProofs := false}) only [go_sem, ↓reduceIte, Nat.reduceEqDiff, Nat.reduceAdd, Nat.reduceMul, Nat.reduceLeDiff, Nat.reduceLT, Nat.reduceSub, IntWalk.iteOmega, IntWalk.toNatUp, reduceCtorEq, false_and, and_false, false_or, or_false, true_or, or_true, not_true_eq_false, not_false_eq_true, Bool.not_true, Bool.not_false, Bool.and_true, Bool.true_and, Bool.and_false, Bool.false_and, Bool.not_eq_true, beq_self_eq_true, Nat.add_zero, Int.reduceLE, Int.reduceLT, Int.reduceToNat, Int.reduceNeg, r1, r2]
  refine (allowed_ok T _ tc tr tu k c s n v now).use ?_
  rintro _ h2 ⟨rfl, b2⟩
  simp (config := {maxSteps := 2000000, implicitDefEqProofs := false}) only [go_sem, ↓reduceIte, Nat.reduceEqDiff, Nat.reduceAdd, Nat.reduceMul, Nat.reduceLeDiff, Nat.reduceLT, Nat.reduceSub, IntWalk.iteOmega, IntWalk.toNatUp, reduceCtorEq, false_and, and_false, false_or, or_false, true_or, or_true, not_true_eq_false, not_false_eq_true, Bool.not_true, Bool.not_false, Bool.and_true, Bool.true_and, Bool.and_false, Bool.false_and, Bool.not_eq_true, beq_self_eq_true, Nat.add_zero, Int.reduceLE, Int.reduceLT, Int.reduceToNat, Int.reduceNeg]
  exact B1.trans (b2.mono B1.size)
set_option maxRecDepth 100000 in
theorem orderAllows_lifted (os : Os) (started : os.Started) (H : Type) (enc : TypeId × Value → H) :
    ReturnsInHanded {} Tryd.checked os 3 .any (fun w args => (Rows.orderAllowsSpec.pre enc Tryd.prog Tryd.f3 [] false w args ∧ laidMetH Tryd.prog Rows.orderAllowsRow.laid w) ∧ sizedMet enc Tryd.prog Tryd.f3 (OpenSpec.ofChange Rows.orderAllowsSpec) false w args)
      (Rows.orderAllowsSpec.post enc Tryd.prog Tryd.f3 false true false false) :=
  law_liftedL (C := Tryd.checked) (laid := Rows.orderAllowsRow.laid) ownKnobT started (by kernel_rfl) Tryd.func3
    (ChangeSpec.witness_shaped (enc := enc) (C := Tryd.checked) (os := os) (X := fun w _ => laidMetH Tryd.prog Rows.orderAllowsRow.laid w) false (World.doorLaid Tryd.prog 87 os) #[.agg (rep 3 [Value.int .i64 0]).toArray, .agg (rep 5 [Value.int .i64 0]).toArray, .int .i64 0] 12 rfl (doorShaped os _) (by kernel_rfl) (by kernel_rfl) (by kernel_rfl) (doorNeed os _))
    laidOutT (by kernel_rfl) (by kernel_rfl) (tb := 4) rfl Tryd.underlying4 rfl (fun ds hd => by
      have hl : ds.length = 3 := hd
      match ds, hl with
      | [d0, d1, d2], _ => rfl) (fun W h => needTab h) orderAllows_ok
theorem orderAllows_said : Rows.OrderAllowsSaid :=
  OpenClaim.holds_of_wide 3 Tryd.f3 rfl rfl rfl rfl rfl rfl rfl ⟨rfl, rfl, rfl, rfl, rfl⟩ rfl rfl rfl rfl rfl (by kernel_rfl) Tryd.func3 (show joinedFacts Tryd.prog 3 Tryd.f3 Rows.orderAllowsSpec Rows.orderAllowsRow = true by unfold joinedFacts; rw [makeT, enterT, liftsT]; kernel_rfl)
    (of_decide_eq_true (by kernel_rfl)) (by unfold Func.isWrapper; rw [if_neg (of_decide_eq_false (by kernel_rfl))]; exact ⟨rfl, rfl⟩)
    (fun os started H enc _ => orderAllows_lifted os started H enc)
theorem orderAllows_plain (f : FuncId) (fn : Func) (hf : Tryd.pinned.checked.prog.funcNamed "conclave/conclavelaw.OrderAllows" = some f) (hfn : Tryd.pinned.checked.prog.funcs[f]? = some fn) :
    true = Tryd.pinned.checked.prog.looks [] ∧ ∀ (j : Nat) t, fn.params[j]? = some t → Tryd.pinned.checked.prog.wantsStandIn t = false := by
  obtain rfl : f = 3 := Option.some.inj ((show Tryd.prog.funcNamed "conclave/conclavelaw.OrderAllows" = some 3 by kernel_rfl).symm.trans hf) |>.symm
  obtain rfl : fn = Tryd.f3 := (Option.some.inj (Tryd.func3.symm.trans hfn)).symm
  refine ⟨by kernel_rfl, fun j t ht => ?_⟩
  have hm : t ∈ Tryd.f3.params.toList := by simpa using Array.mem_of_getElem? ht
  have hall : (Tryd.f3.params.toList.all fun u => !Tryd.prog.wantsStandIn u) = true := by kernel_rfl
  exact (show Tryd.prog.wantsStandIn t = false by simpa using List.all_eq_true.1 hall t hm)
theorem orderAllows_card : Rows.OrderAllowsCardSaid :=
  Claim7.holds_tied_plain_at .later [] _ _ _ _ orderAllows_said (fun _ h => by cases h) (by kernel_rfl) (fun _ h => by cases h) orderAllows_row_tie rfl ⟨rfl, rfl⟩ (by kernel_rfl) rfl orderAllows_plain (by kernel_rfl)
end Go.Proofs.YtnpacofabdgcdaaDoor
