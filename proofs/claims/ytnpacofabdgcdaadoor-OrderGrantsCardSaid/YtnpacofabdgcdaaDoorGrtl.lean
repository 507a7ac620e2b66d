/- OrderGrants holds: order.Grant answers what the document says, at every argument; the table of numbers as the program lays it. -/
import Derived.Test.YtnpacofabdgcdaaDoorGrt
import Derived.Test.YtnpacofabdgcdaaDoorCards
import Derived.Test.YtnpacofabdgcdaaDoorTie
namespace Go.Proofs.YtnpacofabdgcdaaDoor
open Go Go.V
set_option linter.unusedSimpArgs false
set_option linter.unusedVariables false
set_option maxRecDepth 100000
theorem orderGrants_ok : LawOkL Tryd.prog Tk 9 Tryd.f9.params.toList := by
  intro T args tk hfit
  rw [show Tryd.f9.params.toList = [29, 23] from rfl] at hfit
  obtain ⟨v, _, rfl, ⟨k1, h1⟩, hfit⟩ := fitAll_cons hfit
  obtain ⟨t, _, rfl, ⟨k2, h2⟩, hfit⟩ := fitAll_cons hfit
  obtain rfl := fitAll_nil hfit
  obtain ⟨key, s, hl⟩ := fit_bytes Tryd.underlying29 Tryd.underlying5 (by kernel_rfl) (by kernel_rfl) (fitV_one ta29 h1)
  obtain ⟨cs, rfl, _, hf⟩ := fitV_struct (l := rep 3 [3]) Tryd.underlying23 (by kernel_rfl) (by kernel_rfl) h2
  obtain ⟨c, _, rfl, _, _, hf⟩ := fitL_int Tryd.underlying3 hf
  obtain ⟨r, _, rfl, _, _, hf⟩ := fitL_int Tryd.underlying3 hf
  obtain ⟨u, _, rfl, _, _, hf⟩ := fitL_int Tryd.underlying3 hf
  obtain rfl := fitL_nil hf
  generalize T.heap = h at *
  refine CallsH.of_code' (args := [_, _]) Tryd.func9 rfl rfl rfl rfl ?_
  simp (config := {maxSteps := 2000000, implicitDefEqProofs := false}) only [go_sem, ↓reduceIte, Nat.reduceEqDiff, Nat.reduceAdd, Nat.reduceMul, Nat.reduceLeDiff, Nat.reduceLT, Nat.reduceSub, IntWalk.iteOmega, IntWalk.toNatUp, reduceCtorEq, false_and, and_false, false_or, or_false, true_or, or_true, not_true_eq_false, not_false_eq_true, Bool.not_true, Bool.not_false, Bool.and_true, Bool.true_and, Bool.and_false, Bool.false_and, Bool.not_eq_true, beq_self_eq_true, Nat.add_zero, Int.reduceLE, Int.reduceLT, Int.reduceToNat, Int.reduceNeg]
  obtain ⟨h1, hh1⟩ : ∃ h1 : Hp, h1 = h.push (.cells (tokC c r u).toArray 23) := ⟨_, rfl⟩
  have b1 : Bel h.size h h1 := by rw [hh1]; exact Bel.push (Nat.le_refl _) _
  have s1 : h1.size = h.size + 1 := by rw [hh1]; simp
  have r1 : rd h1 ⟨h.size, 0, none⟩ 3 = some (tokC c r u) := by rw [hh1, rd_push, if_pos rfl]; rfl
  have hlt : h.size < h1.size := by omega
  have e1 : h.push (.cells #[Value.int .i64 c, .int .i64 r, .int .i64 u] 23) = h1 := hh1.symm
  rw [e1]
  clear e1 hh1
  refine VS.mono (N := fun F g => Bel h1.size h1 g ∧ F 0 = v ∧ F 3 = .pointer (some ⟨h.size, 0, none⟩) ∧ F 6 = .int .i64 (grtErr key.length c r u) ∧ Bs g (F 5) (if grtErr key.length c r u = 0 then grtS key c.toNat r.toNat u.toNat else [])) ?_ ?_ (fun _ _ _ h => h) (fun _ _ h => h)
  · refine VS.w (h1.size) [] (.q 0 (.q 2 (.s 1 (.s 3 (.q 4 (.q 5 (.q 6 (.q 7 (.q 8 .nil))))))))) mixed (by kernel_rfl) ?_
    simp (config := {maxSteps := 2000000, implicitDefEqProofs := false}) only [go_sem, ↓reduceIte, Nat.reduceEqDiff, Nat.reduceAdd, Nat.reduceMul, Nat.reduceLeDiff, Nat.reduceLT, Nat.reduceSub, IntWalk.iteOmega, IntWalk.toNatUp, reduceCtorEq, false_and, and_false, false_or, or_false, true_or, or_true, not_true_eq_false, not_false_eq_true, Bool.not_true, Bool.not_false, Bool.and_true, Bool.true_and, Bool.and_false, Bool.false_and, Bool.not_eq_true, beq_self_eq_true, Nat.add_zero, Int.reduceLE, Int.reduceLT, Int.reduceToNat, Int.reduceNeg, r1, hlt]
    refine (octets_ok T _ _ _ (s.bel b1) hl).use ?_
    rintro v0 h2 ⟨o0, b2⟩
    have tk2 : Tk h2 := tk.bels (b1.trans (b2.mono b1.size))
    simp (config := {maxSteps := 2000000, implicitDefEqProofs := false}) only [go_sem, ↓reduceIte, Nat.reduceEqDiff, Nat.reduceAdd, Nat.reduceMul, Nat.reduceLeDiff, Nat.reduceLT, Nat.reduceSub, IntWalk.iteOmega, IntWalk.toNatUp, reduceCtorEq, false_and, and_false, false_or, or_false, true_or, or_true, not_true_eq_false, not_false_eq_true, Bool.not_true, Bool.not_false, Bool.and_true, Bool.true_and, Bool.and_false, Bool.false_and, Bool.not_eq_true, beq_self_eq_true, Nat.add_zero, Int.reduceLE, Int.reduceLT, Int.reduceToNat, Int.reduceNeg, b2]
    refine (grant_ok T _ _ key c r u o0.bs tk2).use ?_
    rintro _ h3 ⟨⟨w3, rfl, o3⟩, b3⟩
    have B3 := b2.trans (b3.mono b2.size)
    obtain ⟨E, hE⟩ : ∃ E, E = grtErr key.length c r u := ⟨_, rfl⟩
    rw [← hE] at o3 ⊢
    simp (config := {maxSteps := 2000000, implicitDefEqProofs := false}) only [go_sem, ↓reduceIte, Nat.reduceEqDiff, Nat.reduceAdd, Nat.reduceMul, Nat.reduceLeDiff, Nat.reduceLT, Nat.reduceSub, IntWalk.iteOmega, IntWalk.toNatUp, reduceCtorEq, false_and, and_false, false_or, or_false, true_or, or_true, not_true_eq_false, not_false_eq_true, Bool.not_true, Bool.not_false, Bool.and_true, Bool.true_and, Bool.and_false, Bool.false_and, Bool.not_eq_true, beq_self_eq_true, Nat.add_zero, Int.reduceLE, Int.reduceLT, Int.reduceToNat, Int.reduceNeg, B3]
    exact o3.bs
  rintro F g ⟨bg, f0, f3, f6, o5⟩
  obtain ⟨E, hE⟩ : ∃ E, E = grtErr key.length c r u := ⟨_, rfl⟩
  rw [← hE] at f6 o5
  have r2 : rd g ⟨h.size, 0, none⟩ 3 = some (tokC c r u) := by rw [rd_bel bg (by exact hlt)]; exact r1
  have Bg := b1.trans (bg.mono (by omega))
  simp (config := {maxSteps := 2000000, implicitDefEqProofs := false}) only [go_sem, ↓reduceIte, Nat.reduceEqDiff, Nat.reduceAdd, Nat.reduceMul, Nat.reduceLeDiff, Nat.reduceLT, Nat.reduceSub, IntWalk.iteOmega, IntWalk.toNatUp, reduceCtorEq, false_and, and_false, false_or, or_false, true_or, or_true, not_true_eq_false, not_false_eq_true, Bool.not_true, Bool.not_false, Bool.and_true, Bool.true_and, Bool.and_false, Bool.false_and, Bool.not_eq_true, beq_self_eq_true, Nat.add_zero, Int.reduceLE, Int.reduceLT, Int.reduceToNat, Int.reduceNeg, f0, f3, f6, r2]
  refine (granted_ok T g v key c r u (s.bel Bg)).use ?_
  rintro _ h4 ⟨⟨w4, rfl, o4⟩, b4⟩
  have B4 := Bg.trans (b4.mono Bg.size)
  rw [← hE] at o4 ⊢
  simp (config := {maxSteps := 2000000, implicitDefEqProofs := false}) only [go_sem, ↓reduceIte, Nat.reduceEqDiff, Nat.reduceAdd, Nat.reduceMul, Nat.reduceLeDiff, Nat.reduceLT, Nat.reduceSub, IntWalk.iteOmega, IntWalk.toNatUp, reduceCtorEq, false_and, and_false, false_or, or_false, true_or, or_true, not_true_eq_false, not_false_eq_true, Bool.not_true, Bool.not_false, Bool.and_true, Bool.true_and, Bool.and_false, Bool.false_and, Bool.not_eq_true, beq_self_eq_true, Nat.add_zero, Int.reduceLE, Int.reduceLT, Int.reduceToNat, Int.reduceNeg, f6]
  refine (sameBytes_ok T _ _ _ _ _ (o5.bel b4) o4.bs).pure ?_
  simp (config := {contextual := true, maxSteps := 2000000, implicitDefEqProofs := false}) only [go_sem, ↓reduceIte, Nat.reduceEqDiff, Nat.reduceAdd, Nat.reduceMul, Nat.reduceLeDiff, Nat.reduceLT, Nat.reduceSub, IntWalk.iteOmega, IntWalk.toNatUp, reduceCtorEq, false_and, and_false, false_or, or_false, true_or, or_true, not_true_eq_false, not_false_eq_true, Bool.not_true, Bool.not_false, Bool.and_true, Bool.true_and, Bool.and_false, Bool.false_and, Bool.not_eq_true, beq_self_eq_true, Nat.add_zero, Int.reduceLE, Int.reduceLT, Int.reduceToNat, Int.reduceNeg]
  exact B4
set_option maxRecDepth 100000 in
theorem orderGrants_lifted (os : Os) (started : os.Started) (H : Type) (enc : TypeId × Value → H) :
    ReturnsInHanded {} Tryd.checked os 9 .any (fun w args => (Rows.orderGrantsSpec.pre enc Tryd.prog Tryd.f9 [] false w args ∧ laidMetH Tryd.prog Rows.orderGrantsRow.laid w) ∧ sizedMet enc Tryd.prog Tryd.f9 (OpenSpec.ofChange Rows.orderGrantsSpec) false w args)
      (Rows.orderGrantsSpec.post enc Tryd.prog Tryd.f9 false true false false) :=
  law_liftedL (C := Tryd.checked) (laid := Rows.orderGrantsRow.laid) ownKnobT started (by kernel_rfl) Tryd.func9
    (ChangeSpec.witness_shaped (enc := enc) (C := Tryd.checked) (os := os) (X := fun w _ => laidMetH Tryd.prog Rows.orderGrantsRow.laid w) false (World.doorLaid Tryd.prog 87 os) #[.slice none 0 0, .agg (rep 3 [Value.int .i64 0]).toArray] 12 rfl (doorShaped os _) (by kernel_rfl) (by kernel_rfl) (by kernel_rfl) (doorSha os _))
    laidOutT (by kernel_rfl) (by kernel_rfl) (tb := 4) rfl Tryd.underlying4 rfl (fun ds hd => by
      have hl : ds.length = 2 := hd
      match ds, hl with
      | [d0, d1], _ => rfl) (fun W h => shaTab h) orderGrants_ok
theorem orderGrants_said : Rows.OrderGrantsSaid :=
  OpenClaim.holds_of_wide 9 Tryd.f9 rfl rfl rfl rfl rfl rfl rfl ⟨rfl, rfl, rfl, rfl, rfl⟩ rfl rfl rfl rfl rfl (by kernel_rfl) Tryd.func9 (show joinedFacts Tryd.prog 9 Tryd.f9 Rows.orderGrantsSpec Rows.orderGrantsRow = true by unfold joinedFacts; rw [makeT, enterT, liftsT]; kernel_rfl)
    (of_decide_eq_true (by kernel_rfl)) (by unfold Func.isWrapper; rw [if_neg (of_decide_eq_false (by kernel_rfl))]; exact ⟨rfl, rfl⟩)
    (fun os started H enc _ => orderGrants_lifted os started H enc)
theorem orderGrants_plain (f : FuncId) (fn : Func) (hf : Tryd.pinned.checked.prog.funcNamed "conclave/conclavelaw.OrderGrants" = some f) (hfn : Tryd.pinned.checked.prog.funcs[f]? = some fn) :
    true = Tryd.pinned.checked.prog.looks [] ∧ ∀ (j : Nat) t, fn.params[j]? = some t → Tryd.pinned.checked.prog.wantsStandIn t = false := by
  obtain rfl : f = 9 := Option.some.inj ((show Tryd.prog.funcNamed "conclave/conclavelaw.OrderGrants" = some 9 by kernel_rfl).symm.trans hf) |>.symm
  obtain rfl : fn = Tryd.f9 := (Option.some.inj (Tryd.func9.symm.trans hfn)).symm
  refine ⟨by kernel_rfl, fun j t ht => ?_⟩
  have hm : t ∈ Tryd.f9.params.toList := by simpa using Array.mem_of_getElem? ht
  have hall : (Tryd.f9.params.toList.all fun u => !Tryd.prog.wantsStandIn u) = true := by kernel_rfl
  exact (show Tryd.prog.wantsStandIn t = false by simpa using List.all_eq_true.1 hall t hm)
theorem orderGrants_card : Rows.OrderGrantsCardSaid :=
  Claim7.holds_tied_plain_at .later [] _ _ _ _ orderGrants_said (fun _ h => by cases h) (by kernel_rfl) (fun _ h => by cases h) orderGrants_row_tie rfl ⟨rfl, rfl⟩ (by kernel_rfl) rfl orderGrants_plain (by kernel_rfl)
end Go.Proofs.YtnpacofabdgcdaaDoor
