/- PaxosChecks holds: paxos.Check answers what the document says, at every argument; without any condition. -/
import Derived.Test.YtjgbajgmndkfjaaPax
namespace Go.Proofs.Ytjgbajgmndkfjaa
open Go Go.V
set_option linter.unusedSimpArgs false
set_option linter.unusedVariables false
set_option maxRecDepth 100000
theorem paxosChecks_ok : LawOk Try.prog 17 Try.f17.params.toList := by
  intro T args hfit
  rw [show Try.f17.params.toList = [79] from rfl] at hfit
  obtain ⟨v, _, rfl, ⟨k1, h1⟩, hfit⟩ := fitAll_cons hfit
  obtain rfl := fitAll_nil hfit
  obtain ⟨cs, rfl, hl, hf⟩ := fitV_struct (l := rep 2 [3] ++ [77]) Try.underlying79 (by kernel_rfl) (by kernel_rfl) h1
  obtain ⟨r, _, rfl, _, _, hf⟩ := fitL_int Try.underlying3 hf
  obtain ⟨n, _, rfl, _, _, hf⟩ := fitL_int Try.underlying3 hf
  obtain ⟨v, cs, k2, rfl, hk, hf⟩ := fitL_cell hf
  obtain rfl := fitL_nil hf
  obtain ⟨l, s, hll⟩ := fit_votes hk
  generalize T.heap = h at *
  refine CallsH.of_code' (args := [_]) Try.func17 rfl rfl rfl rfl ?_
  obtain ⟨pv, cv, rfl, _⟩ := votes_open s
  simp (config := {maxSteps := 2000000, implicitDefEqProofs := false}) only [go_sem, ↓reduceIte, Nat.reduceEqDiff, Nat.reduceAdd, Nat.reduceMul, Nat.reduceLeDiff, Nat.reduceLT, Nat.reduceSub, IntWalk.iteOmega, IntWalk.toNatUp, reduceCtorEq, false_and, and_false, false_or, or_false, true_or, or_true, not_true_eq_false, not_false_eq_true, Bool.not_true, Bool.not_false, Bool.and_true, Bool.true_and, Bool.and_false, Bool.false_and, Bool.not_eq_true, beq_self_eq_true, Nat.add_zero, Int.reduceLE, Int.reduceLT, Int.reduceToNat, Int.reduceNeg]
  refine (acceptors_ok T _ ⟨r, n⟩ _ l (s.bel ((Bel.refl h.size h).add _)) hll).use ?_
  rintro _ h1 ⟨⟨w, rfl, o1⟩, b1⟩
  simp (config := {maxSteps := 2000000, implicitDefEqProofs := false}) only [go_sem, ↓reduceIte, Nat.reduceEqDiff, Nat.reduceAdd, Nat.reduceMul, Nat.reduceLeDiff, Nat.reduceLT, Nat.reduceSub, IntWalk.iteOmega, IntWalk.toNatUp, reduceCtorEq, false_and, and_false, false_or, or_false, true_or, or_true, not_true_eq_false, not_false_eq_true, Bool.not_true, Bool.not_false, Bool.and_true, Bool.true_and, Bool.and_false, Bool.false_and, Bool.not_eq_true, beq_self_eq_true, Nat.add_zero, Int.reduceLE, Int.reduceLT, Int.reduceToNat, Int.reduceNeg]
  refine (paxosCheck_ok T _ ⟨r, n⟩ w l o1.ts (by omega)).use ?_
  rintro _ h2 ⟨rfl, b2⟩
  have x1 : h1[h.size]? = some (.cells [.int .i64 r, .int .i64 n, .slice pv l.length cv].toArray 79) := b1.get (by simp) get_push_last
  have x2 := b2.get (lt_of_get x1) x1
  have y2 := rd_last x2 (n := 3) rfl
  have B2 : Bel h.size h h2 := ((Bel.push (Nat.le_refl _) _).trans (b1.mono (by simp))).trans (b2.mono (Nat.le_of_lt (lt_of_get x1)))
  simp (config := {maxSteps := 2000000, implicitDefEqProofs := false}) only [go_sem, ↓reduceIte, Nat.reduceEqDiff, Nat.reduceAdd, Nat.reduceMul, Nat.reduceLeDiff, Nat.reduceLT, Nat.reduceSub, IntWalk.iteOmega, IntWalk.toNatUp, reduceCtorEq, false_and, and_false, false_or, or_false, true_or, or_true, not_true_eq_false, not_false_eq_true, Bool.not_true, Bool.not_false, Bool.and_true, Bool.true_and, Bool.and_false, Bool.false_and, Bool.not_eq_true, beq_self_eq_true, Nat.add_zero, Int.reduceLE, Int.reduceLT, Int.reduceToNat, Int.reduceNeg, y2]
  refine (acceptorFault_ok T _ ⟨r, n⟩ _ l (s.bel B2) (by omega)).use ?_
  rintro _ h3 ⟨rfl, b3⟩
  simp (config := {maxSteps := 2000000, implicitDefEqProofs := false}) only [go_sem, ↓reduceIte, Nat.reduceEqDiff, Nat.reduceAdd, Nat.reduceMul, Nat.reduceLeDiff, Nat.reduceLT, Nat.reduceSub, IntWalk.iteOmega, IntWalk.toNatUp, reduceCtorEq, false_and, and_false, false_or, or_false, true_or, or_true, not_true_eq_false, not_false_eq_true, Bool.not_true, Bool.not_false, Bool.and_true, Bool.true_and, Bool.and_false, Bool.false_and, Bool.not_eq_true, beq_self_eq_true, Nat.add_zero, Int.reduceLE, Int.reduceLT, Int.reduceToNat, Int.reduceNeg]
  exact B2.trans (b3.mono B2.size)
theorem paxosChecks_lifted (os : Os) (started : os.Started) (H : Type) (enc : TypeId × Value → H) :
    ReturnsInHanded {} Try.checked os 17 .any (Rows.paxosChecksSpec.pre6 enc Try.prog Try.f17 Rows.paxosChecksRow.domain false) (Rows.paxosChecksSpec.post enc Try.prog Try.f17 false true false false) :=
  law_lifted (C := Try.checked) ownKnobT started (by kernel_rfl) Try.func17
    (ChangeSpec.witness6 (enc := enc) (C := Try.checked) false ⟨#[], #[.agg (rep 2 [Value.int .i64 0] ++ [Value.slice none 0 0]).toArray], []⟩ 12 (by kernel_rfl) (by kernel_rfl) (by kernel_rfl) (by kernel_rfl))
    laidOutT (by kernel_rfl) (by kernel_rfl) (tb := 4) rfl Try.underlying4 rfl (fun ds hd => by
      have hl : ds.length = 1 := hd
      match ds, hl with
      | [d0], _ => rfl) paxosChecks_ok
theorem paxosChecks_holds : Rows.PaxosChecksSaid :=
  OpenClaim.holds_of_wide 17 Try.f17 rfl rfl rfl rfl rfl rfl rfl ⟨rfl, rfl, rfl, rfl, rfl⟩ rfl rfl rfl rfl rfl (by kernel_rfl) Try.func17 (show joinedFacts Try.prog 17 Try.f17 Rows.paxosChecksSpec Rows.paxosChecksRow = true by unfold joinedFacts; rw [makeT, enterT, liftsT]; kernel_rfl)
    (of_decide_eq_true (by kernel_rfl)) (by unfold Func.isWrapper; rw [if_neg (of_decide_eq_false (by kernel_rfl))]; exact ⟨rfl, rfl⟩)
    (fun os started H enc _ => paxosChecks_lifted os started H enc)
end Go.Proofs.Ytjgbajgmndkfjaa
