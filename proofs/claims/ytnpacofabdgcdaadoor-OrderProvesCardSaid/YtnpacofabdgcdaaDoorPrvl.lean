/- OrderProves holds: order.Prove answers what the document says, at every argument; the table of numbers as the program lays it. -/
import Derived.Test.YtnpacofabdgcdaaDoorPrv
import Derived.Test.YtnpacofabdgcdaaDoorW8
import Derived.Test.YtnpacofabdgcdaaDoorCards
import Derived.Test.YtnpacofabdgcdaaDoorTie
namespace Go.Proofs.YtnpacofabdgcdaaDoor
open Go Go.V
set_option linter.unusedSimpArgs false
set_option linter.unusedVariables false
set_option maxRecDepth 100000
theorem prvT_fit (key l : List Nat) : fitK [some .i64, some .i64, some .i64] (prvT key l) = true := by
  unfold prvT tokZ tokC
  split <;> rfl
theorem orderProves_ok : LawOkL Tryd.prog Tk 10 Tryd.f10.params.toList := by
  intro T args tk hfit
  rw [show Tryd.f10.params.toList = [29, 29] from rfl] at hfit
  obtain ⟨v, _, rfl, ⟨k1, h1⟩, hfit⟩ := fitAll_cons hfit
  obtain ⟨u, _, rfl, ⟨k2, h2⟩, hfit⟩ := fitAll_cons hfit
  obtain rfl := fitAll_nil hfit
  obtain ⟨key, s, hl⟩ := fit_bytes Tryd.underlying29 Tryd.underlying5 (by kernel_rfl) (by kernel_rfl) (fitV_one ta29 h1)
  obtain ⟨b, sb, hb⟩ := fit_bytes Tryd.underlying29 Tryd.underlying5 (by kernel_rfl) (by kernel_rfl) (fitV_one ta29 h2)
  have cu : Cap u := fit_cap Tryd.underlying29 (fitV_one ta29 h2)
  generalize T.heap = h at *
  refine CallsH.of_code' (args := [_, _]) Tryd.func10 rfl rfl rfl rfl ?_
  simp (config := {maxSteps := 2000000, implicitDefEqProofs := false}) only [go_sem, ↓reduceIte, Nat.reduceEqDiff, Nat.reduceAdd, Nat.reduceMul, Nat.reduceLeDiff, Nat.reduceLT, Nat.reduceSub, IntWalk.iteOmega, IntWalk.toNatUp, reduceCtorEq, false_and, and_false, false_or, or_false, true_or, or_true, not_true_eq_false, not_false_eq_true, Bool.not_true, Bool.not_false, Bool.and_true, Bool.true_and, Bool.and_false, Bool.false_and, Bool.not_eq_true, beq_self_eq_true, Nat.add_zero, Int.reduceLE, Int.reduceLT, Int.reduceToNat, Int.reduceNeg]
  refine (octets_ok T _ _ _ s hl).use ?_
  rintro v0 h0 ⟨o0, b0⟩
  simp (config := {maxSteps := 2000000, implicitDefEqProofs := false}) only [go_sem, ↓reduceIte, Nat.reduceEqDiff, Nat.reduceAdd, Nat.reduceMul, Nat.reduceLeDiff, Nat.reduceLT, Nat.reduceSub, IntWalk.iteOmega, IntWalk.toNatUp, reduceCtorEq, false_and, and_false, false_or, or_false, true_or, or_true, not_true_eq_false, not_false_eq_true, Bool.not_true, Bool.not_false, Bool.and_true, Bool.true_and, Bool.and_false, Bool.false_and, Bool.not_eq_true, beq_self_eq_true, Nat.add_zero, Int.reduceLE, Int.reduceLT, Int.reduceToNat, Int.reduceNeg]
  refine (octets_ok T _ _ _ (sb.bel b0) hb).use ?_
  rintro v1 h1 ⟨o1, b1⟩
  have B1 := b0.trans (b1.mono b0.size)
  simp (config := {maxSteps := 2000000, implicitDefEqProofs := false}) only [go_sem, ↓reduceIte, Nat.reduceEqDiff, Nat.reduceAdd, Nat.reduceMul, Nat.reduceLeDiff, Nat.reduceLT, Nat.reduceSub, IntWalk.iteOmega, IntWalk.toNatUp, reduceCtorEq, false_and, and_false, false_or, or_false, true_or, or_true, not_true_eq_false, not_false_eq_true, Bool.not_true, Bool.not_false, Bool.and_true, Bool.true_and, Bool.and_false, Bool.false_and, Bool.not_eq_true, beq_self_eq_true, Nat.add_zero, Int.reduceLE, Int.reduceLT, Int.reduceToNat, Int.reduceNeg]
  refine (prove_ok T _ _ _ key b (o0.bs.bel b1) o1.bs o1.cap (tk.bels B1)).use ?_
  rintro _ h2 ⟨rfl, b2⟩
  have B2 := B1.trans (b2.mono B1.size)
  have z1 : (prvT key b).length = 3 := fitK_length (prvT_fit key b)
  have z2 := fitK_one (prvT_fit key b)
  have z3 := leq_self (prvT_fit key b)
  have z4 := prvT_fit key b
  obtain ⟨D, hD⟩ : ∃ D, D = prvT key b := ⟨_, rfl⟩
  obtain ⟨E, hE⟩ : ∃ E, E = prvErr key b := ⟨_, rfl⟩
  rw [← hD] at z1 z2 z3 z4 ⊢
  rw [← hE]
  have z5 : lput [Value.int .i64 0, .int .i64 0, .int .i64 0] 0 D = D := lput_full z1
  simp (config := {contextual := true, maxSteps := 2000000, implicitDefEqProofs := false}) only [go_sem, ↓reduceIte, Nat.reduceEqDiff, Nat.reduceAdd, Nat.reduceMul, Nat.reduceLeDiff, Nat.reduceLT, Nat.reduceSub, IntWalk.iteOmega, IntWalk.toNatUp, reduceCtorEq, false_and, and_false, false_or, or_false, true_or, or_true, not_true_eq_false, not_false_eq_true, Bool.not_true, Bool.not_false, Bool.and_true, Bool.true_and, Bool.and_false, Bool.false_and, Bool.not_eq_true, beq_self_eq_true, Nat.add_zero, Int.reduceLE, Int.reduceLT, Int.reduceToNat, Int.reduceNeg, z1, z2, z3, z4, z5]
  have B3 : Bel h.size h (h2.push (.cells D.toArray 23)) := B2.add _
  refine (proved_ok T _ _ _ key b (s.bel B3) (sb.bel B3) cu).use ?_
  rintro _ h3 ⟨rfl, b3⟩
  rw [← hD, ← hE]
  have y0 : h3[h2.size]? = some (.cells D.toArray 23) := b3.get (by simp) get_push_last
  have y1 : rd h3 ⟨h2.size, 0, none⟩ 3 = some D := rd_last y0 z1
  have tkk := take_len z1
  have z6 : h2.size < h3.size := by have := b3.size; simp at this; omega
  have B4 := B3.trans (b3.mono B3.size)
  simp (config := {contextual := true, maxSteps := 2000000, implicitDefEqProofs := false}) only [go_sem, ↓reduceIte, Nat.reduceEqDiff, Nat.reduceAdd, Nat.reduceMul, Nat.reduceLeDiff, Nat.reduceLT, Nat.reduceSub, IntWalk.iteOmega, IntWalk.toNatUp, reduceCtorEq, false_and, and_false, false_or, or_false, true_or, or_true, not_true_eq_false, not_false_eq_true, Bool.not_true, Bool.not_false, Bool.and_true, Bool.true_and, Bool.and_false, Bool.false_and, Bool.not_eq_true, beq_self_eq_true, Nat.add_zero, Int.reduceLE, Int.reduceLT, Int.reduceToNat, Int.reduceNeg, z1, z2, z3, z4, z5, y1, tkk]
  exact B4.add _
set_option maxRecDepth 100000 in
theorem orderProves_lifted (os : Os) (started : os.Started) (H : Type) (enc : TypeId × Value → H) :
    ReturnsInHanded {} Tryd.checked os 10 .any (fun w args => (Rows.orderProvesSpec.pre enc Tryd.prog Tryd.f10 [] false w args ∧ laidMetH Tryd.prog Rows.orderProvesRow.laid w) ∧ sizedMet enc Tryd.prog Tryd.f10 (OpenSpec.ofChange Rows.orderProvesSpec) false w args)
      (Rows.orderProvesSpec.post enc Tryd.prog Tryd.f10 false true false false) :=
  law_liftedL (C := Tryd.checked) (laid := Rows.orderProvesRow.laid) ownKnobT started (by kernel_rfl) Tryd.func10
    (ChangeSpec.witness_shaped (enc := enc) (C := Tryd.checked) (os := os) (X := fun w _ => laidMetH Tryd.prog Rows.orderProvesRow.laid w) false (World.doorLaid Tryd.prog 87 os) #[.slice none 0 0, .slice none 0 0] 12 rfl (doorShaped os _) (by kernel_rfl) (by kernel_rfl) (by kernel_rfl) (doorSha os _))
    laidOutT (by kernel_rfl) (by kernel_rfl) (tb := 4) rfl Tryd.underlying4 rfl (fun ds hd => by
      have hl : ds.length = 2 := hd
      match ds, hl with
      | [d0, d1], _ => rfl) (fun W h => shaTab h) orderProves_ok
theorem orderProves_said : Rows.OrderProvesSaid :=
  OpenClaim.holds_of_wide 10 Tryd.f10 rfl rfl rfl rfl rfl rfl rfl ⟨rfl, rfl, rfl, rfl, rfl⟩ rfl rfl rfl rfl rfl (by kernel_rfl) Tryd.func10 (show joinedFacts Tryd.prog 10 Tryd.f10 Rows.orderProvesSpec Rows.orderProvesRow = true by unfold joinedFacts; rw [makeT, enterT, liftsT]; kernel_rfl)
    (of_decide_eq_true (by kernel_rfl)) (by unfold Func.isWrapper; rw [if_neg (of_decide_eq_false (by kernel_rfl))]; exact ⟨rfl, rfl⟩)
    (fun os started H enc _ => orderProves_lifted os started H enc)
theorem orderProves_plain (f : FuncId) (fn : Func) (hf : Tryd.pinned.checked.prog.funcNamed "conclave/conclavelaw.OrderProves" = some f) (hfn : Tryd.pinned.checked.prog.funcs[f]? = some fn) :
    true = Tryd.pinned.checked.prog.looks [] ∧ ∀ (j : Nat) t, fn.params[j]? = some t → Tryd.pinned.checked.prog.wantsStandIn t = false := by
  obtain rfl : f = 10 := Option.some.inj ((show Tryd.prog.funcNamed "conclave/conclavelaw.OrderProves" = some 10 by kernel_rfl).symm.trans hf) |>.symm
  obtain rfl : fn = Tryd.f10 := (Option.some.inj (Tryd.func10.symm.trans hfn)).symm
  refine ⟨by kernel_rfl, fun j t ht => ?_⟩
  have hm : t ∈ Tryd.f10.params.toList := by simpa using Array.mem_of_getElem? ht
  have hall : (Tryd.f10.params.toList.all fun u => !Tryd.prog.wantsStandIn u) = true := by kernel_rfl
  exact (show Tryd.prog.wantsStandIn t = false by simpa using List.all_eq_true.1 hall t hm)
theorem orderProves_card : Rows.OrderProvesCardSaid :=
  Claim7.holds_tied_plain_at .later [] _ _ _ _ orderProves_said (fun _ h => by cases h) (by kernel_rfl) (fun _ h => by cases h) orderProves_row_tie rfl ⟨rfl, rfl⟩ (by kernel_rfl) rfl orderProves_plain (by kernel_rfl)
end Go.Proofs.YtnpacofabdgcdaaDoor
