/- VaultChains holds: vault.Chain answers what the document says, at every argument; the table of numbers as the program lays it. -/
import Derived.Test.YtnpacofabdgcdaaDoorChy
import Derived.Test.YtnpacofabdgcdaaDoorCards
import Derived.Test.YtnpacofabdgcdaaDoorTie
namespace Go.Proofs.YtnpacofabdgcdaaDoor
open Go Go.V
set_option linter.unusedSimpArgs false
set_option linter.unusedVariables false
set_option maxRecDepth 100000
theorem vaultChains_ok : LawOkL Tryd.prog Tk 11 Tryd.f11.params.toList := by
  intro T args tk hfit
  rw [show Tryd.f11.params.toList = [46] from rfl] at hfit
  obtain ⟨v, _, rfl, ⟨k1, h1⟩, hfit⟩ := fitAll_cons hfit
  obtain rfl := fitAll_nil hfit
  obtain ⟨l, s, hll⟩ := fit_cmds (fitV_one ta46 h1)
  clear h1
  generalize T.heap = h at *
  refine CallsH.of_code' (args := [_]) Tryd.func11 rfl rfl rfl rfl ?_
  simp (config := {maxSteps := 2000000, implicitDefEqProofs := false}) only [go_sem, ↓reduceIte, Nat.reduceEqDiff, Nat.reduceAdd, Nat.reduceMul, Nat.reduceLeDiff, Nat.reduceLT, Nat.reduceSub, IntWalk.iteOmega, IntWalk.toNatUp, reduceCtorEq, false_and, and_false, false_or, or_false, true_or, or_true, not_true_eq_false, not_false_eq_true, Bool.not_true, Bool.not_false, Bool.and_true, Bool.true_and, Bool.and_false, Bool.false_and, Bool.not_eq_true, beq_self_eq_true, Nat.add_zero, Int.reduceLE, Int.reduceLT, Int.reduceToNat, Int.reduceNeg]
  refine (cmdsLaw_ok T h v l s hll).use ?_
  rintro w0 h0 ⟨o0, b0⟩
  simp (config := {maxSteps := 2000000, implicitDefEqProofs := false}) only [go_sem, ↓reduceIte, Nat.reduceEqDiff, Nat.reduceAdd, Nat.reduceMul, Nat.reduceLeDiff, Nat.reduceLT, Nat.reduceSub, IntWalk.iteOmega, IntWalk.toNatUp, reduceCtorEq, false_and, and_false, false_or, or_false, true_or, or_true, not_true_eq_false, not_false_eq_true, Bool.not_true, Bool.not_false, Bool.and_true, Bool.true_and, Bool.and_false, Bool.false_and, Bool.not_eq_true, beq_self_eq_true, Nat.add_zero, Int.reduceLE, Int.reduceLT, Int.reduceToNat, Int.reduceNeg]
  refine (chain_ok T h0 w0 l o0.ts (tk.bels b0)).use ?_
  rintro _ h1 ⟨⟨w, E, D, rfl, hED, oe⟩, b1⟩
  have fD : fitK storeK D = true := by
    split at hED
    · rw [(Prod.mk.inj hED).2]; rfl
    · rw [(Prod.mk.inj hED).2]; exact chainS_fit l
  obtain ⟨L, hL⟩ : ∃ L : List Etv, L = if 200 < l.length then [] else chainO l := ⟨_, rfl⟩
  rw [← hL] at oe
  have lL : L.length ≤ 140737488355328 := by
    rw [hL]
    split
    · exact Nat.zero_le _
    · have := chainO_length l
      omega
  have D40 : D.length = 40 := fitK_length fD
  have hDone := fitK_one fD
  have tkD := take_len D40
  have hself := leq_self fD
  have fD' : fitK [some .i64, some .i64, some .i64, some .i64, some .i64, some .i64, some .i64, some .i64, some .i64, some .i64, some .i64, some .i64, some .i64, some .i64, some .i64, some .i64, some .i64, some .i64, some .i64, some .i64, some .i64, some .i64, some .i64, some .i64, some .i64, some .i64, some .i64, some .i64, some .i64, some .i64, some .i64, some .i64, none, none, none, none, none, none, none, none] D = true := fD
  have B1 := b0.trans (b1.mono b0.size)
  simp (config := {maxSteps := 2000000, implicitDefEqProofs := false}) only [go_sem, ↓reduceIte, Nat.reduceEqDiff, Nat.reduceAdd, Nat.reduceMul, Nat.reduceLeDiff, Nat.reduceLT, Nat.reduceSub, IntWalk.iteOmega, IntWalk.toNatUp, reduceCtorEq, false_and, and_false, false_or, or_false, true_or, or_true, not_true_eq_false, not_false_eq_true, Bool.not_true, Bool.not_false, Bool.and_true, Bool.true_and, Bool.and_false, Bool.false_and, Bool.not_eq_true, beq_self_eq_true, Nat.add_zero, Int.reduceLE, Int.reduceLT, Int.reduceToNat, Int.reduceNeg, D40, hDone, lput_full, tkD]
  obtain ⟨h2, hh2⟩ : ∃ h2 : Hp, h2 = h1.push (.cells D.toArray 54) := ⟨_, rfl⟩
  have b2 : Bel h1.size h1 h2 := by rw [hh2]; exact Bel.push (Nat.le_refl _) _
  have z2 : h2.size = h1.size + 1 := by rw [hh2]; simp
  have x2 : h2[h1.size]? = some (.cells D.toArray 54) := by rw [hh2]; exact get_push_last
  rw [← hh2]
  clear hh2
  have B2 := B1.trans (b2.mono B1.size)
  refine (chainOf_ok T h2 v l (s.bel B2)).use ?_
  rintro _ h3 ⟨⟨w', E', D', rfl, hED', oe'⟩, b3⟩
  have he := hED'.trans hED.symm
  simp only [Prod.mk.injEq] at he
  obtain ⟨rfl, rfl⟩ := he
  rw [← hL] at oe'
  have z3 := b3.size
  have x3 := b3.get (by omega) x2
  have r3 := rd_last x3 D40
  have B3 := B2.trans (b3.mono B2.size)
  have k1 : h1.size < h3.size := by omega
  have k2 : ¬ h1.size = h3.size := by omega
  simp (config := {maxSteps := 2000000, implicitDefEqProofs := false}) only [go_sem, ↓reduceIte, Nat.reduceEqDiff, Nat.reduceAdd, Nat.reduceMul, Nat.reduceLeDiff, Nat.reduceLT, Nat.reduceSub, IntWalk.iteOmega, IntWalk.toNatUp, reduceCtorEq, false_and, and_false, false_or, or_false, true_or, or_true, not_true_eq_false, not_false_eq_true, Bool.not_true, Bool.not_false, Bool.and_true, Bool.true_and, Bool.and_false, Bool.false_and, Bool.not_eq_true, beq_self_eq_true, Nat.add_zero, Int.reduceLE, Int.reduceLT, Int.reduceToNat, Int.reduceNeg, D40, hDone, lput_full, tkD, r3, k1, k2, hself, fD']
  have pB := Bel.push (Nat.le_refl h3.size) (Obj.cells D'.toArray 54)
  refine (sameEntries_eq T _ w w' L ((oe.ts.bel (b2.trans (b3.mono (by omega)))).bel pB) (oe'.ts.bel pB) lL).pure ?_
  simp (config := {maxSteps := 2000000, implicitDefEqProofs := false}) only [go_sem, ↓reduceIte, Nat.reduceEqDiff, Nat.reduceAdd, Nat.reduceMul, Nat.reduceLeDiff, Nat.reduceLT, Nat.reduceSub, IntWalk.iteOmega, IntWalk.toNatUp, reduceCtorEq, false_and, and_false, false_or, or_false, true_or, or_true, not_true_eq_false, not_false_eq_true, Bool.not_true, Bool.not_false, Bool.and_true, Bool.true_and, Bool.and_false, Bool.false_and, Bool.not_eq_true, beq_self_eq_true, Nat.add_zero, Int.reduceLE, Int.reduceLT, Int.reduceToNat, Int.reduceNeg]
  exact B3.addP B3.size _
set_option maxRecDepth 100000 in
theorem vaultChains_lifted (os : Os) (started : os.Started) (H : Type) (enc : TypeId × Value → H) :
    ReturnsInHanded {} Tryd.checked os 11 .any (fun w args => (Rows.vaultChainsSpec.pre enc Tryd.prog Tryd.f11 [] false w args ∧ laidMetH Tryd.prog Rows.vaultChainsRow.laid w) ∧ sizedMet enc Tryd.prog Tryd.f11 (OpenSpec.ofChange Rows.vaultChainsSpec) false w args)
      (Rows.vaultChainsSpec.post enc Tryd.prog Tryd.f11 false true false false) :=
  law_liftedL (C := Tryd.checked) (laid := Rows.vaultChainsRow.laid) ownKnobT started (by kernel_rfl) Tryd.func11
    (ChangeSpec.witness_shaped (enc := enc) (C := Tryd.checked) (os := os) (X := fun w _ => laidMetH Tryd.prog Rows.vaultChainsRow.laid w) false (World.doorLaid Tryd.prog 87 os) #[.slice none 0 0] 12 rfl (doorShaped os _) (by kernel_rfl) (by kernel_rfl) (by kernel_rfl) (doorSha os _))
    laidOutT (by kernel_rfl) (by kernel_rfl) (tb := 4) rfl Tryd.underlying4 rfl (fun ds hd => by
      have hl : ds.length = 1 := hd
      match ds, hl with
      | [d0], _ => rfl) (fun W h => shaTab h) vaultChains_ok
theorem vaultChains_said : Rows.VaultChainsSaid :=
  OpenClaim.holds_of_wide 11 Tryd.f11 rfl rfl rfl rfl rfl rfl rfl ⟨rfl, rfl, rfl, rfl, rfl⟩ rfl rfl rfl rfl rfl (by kernel_rfl) Tryd.func11 (show joinedFacts Tryd.prog 11 Tryd.f11 Rows.vaultChainsSpec Rows.vaultChainsRow = true by unfold joinedFacts; rw [makeT, enterT, liftsT]; kernel_rfl)
    (of_decide_eq_true (by kernel_rfl)) (by unfold Func.isWrapper; rw [if_neg (of_decide_eq_false (by kernel_rfl))]; exact ⟨rfl, rfl⟩)
    (fun os started H enc _ => vaultChains_lifted os started H enc)
theorem vaultChains_plain (f : FuncId) (fn : Func) (hf : Tryd.pinned.checked.prog.funcNamed "conclave/conclavelaw.VaultChains" = some f) (hfn : Tryd.pinned.checked.prog.funcs[f]? = some fn) :
    true = Tryd.pinned.checked.prog.looks [] ∧ ∀ (j : Nat) t, fn.params[j]? = some t → Tryd.pinned.checked.prog.wantsStandIn t = false := by
  obtain rfl : f = 11 := Option.some.inj ((show Tryd.prog.funcNamed "conclave/conclavelaw.VaultChains" = some 11 by kernel_rfl).symm.trans hf) |>.symm
  obtain rfl : fn = Tryd.f11 := (Option.some.inj (Tryd.func11.symm.trans hfn)).symm
  refine ⟨by kernel_rfl, fun j t ht => ?_⟩
  have hm : t ∈ Tryd.f11.params.toList := by simpa using Array.mem_of_getElem? ht
  have hall : (Tryd.f11.params.toList.all fun u => !Tryd.prog.wantsStandIn u) = true := by kernel_rfl
  exact (show Tryd.prog.wantsStandIn t = false by simpa using List.all_eq_true.1 hall t hm)
theorem vaultChains_card : Rows.VaultChainsCardSaid :=
  Claim7.holds_tied_plain_at .later [] _ _ _ _ vaultChains_said (fun _ h => by cases h) (by kernel_rfl) (fun _ h => by cases h) vaultChains_row_tie rfl ⟨rfl, rfl⟩ (by kernel_rfl) rfl vaultChains_plain (by kernel_rfl)
end Go.Proofs.YtnpacofabdgcdaaDoor
