/- Tokens that are granted: what the program and the document compute; no condition but those in the statements. -/
import Derived.Test.YtnpacofabdgcdaaDoorShn
import Derived.Test.YtnpacofabdgcdaaDoorTok
namespace Go.Proofs.YtnpacofabdgcdaaDoor
open Go Go.V
set_option linter.unusedSimpArgs false
set_option linter.unusedVariables false
set_option maxRecDepth 100000
theorem proof_ok (T : World) (h : Hp) (v u : Value) (key b : List Nat) (s : Bs h v key) (sb : Bs h u b) (hk : key.length ≤ 256) (hb : b.length ≤ 2000) (tk : Tk h) :
    CallsH Tryd.prog T 78 #[v, u] h fun v' h' => (Bs h' v' ((macS key b).take 16) ∧ Cap v') ∧ Bel h.size h h' := by
  refine CallsH.of_code' (args := [_, _]) Tryd.func78 rfl rfl rfl rfl ?_
  simp (config := {maxSteps := 2000000, implicitDefEqProofs := false}) only [go_sem, ↓reduceIte, Nat.reduceEqDiff, Nat.reduceAdd, Nat.reduceMul, Nat.reduceLeDiff, Nat.reduceLT, Nat.reduceSub, IntWalk.iteOmega, IntWalk.toNatUp, reduceCtorEq, false_and, and_false, false_or, or_false, true_or, or_true, not_true_eq_false, not_false_eq_true, Bool.not_true, Bool.not_false, Bool.and_true, Bool.true_and, Bool.and_false, Bool.false_and, Bool.not_eq_true, beq_self_eq_true, Nat.add_zero, Int.reduceLE, Int.reduceLT, Int.reduceToNat, Int.reduceNeg]
  refine (shaMac_ok T _ _ _ key b s sb tk).use ?_
  rintro _ h1 ⟨⟨w, rfl, o1⟩, b1⟩
  have e0 : macErr key.length b.length = 0 := by unfold macErr; rw [if_neg (by omega)]
  rw [e0, if_pos rfl] at o1
  rw [e0]
  have ml := macS_length key b
  generalize macS key b = M at *
  obtain ⟨p, c, rfl, hc⟩ := o1.open
  have sM := o1.bs
  obtain ⟨p', c', hv, hh⟩ := sM.opend
  simp only [Value.slice.injEq] at hv
  obtain ⟨rfl, _, rfl⟩ := hv
  obtain ⟨bb, ob, rfl, _⟩ := hh (by intro e; rw [e] at ml; cases ml)
  have fin := Bs.fore sM (m := 16) (by omega) c
  rw [ml] at hc ⊢
  have h16 : (16 : Int) ≤ (c : Int) := by omega
  have hc0 : ¬ c = 0 := by omega
  simp (config := {maxSteps := 2000000, implicitDefEqProofs := false}) only [go_sem, ↓reduceIte, Nat.reduceEqDiff, Nat.reduceAdd, Nat.reduceMul, Nat.reduceLeDiff, Nat.reduceLT, Nat.reduceSub, IntWalk.iteOmega, IntWalk.toNatUp, reduceCtorEq, false_and, and_false, false_or, or_false, true_or, or_true, not_true_eq_false, not_false_eq_true, Bool.not_true, Bool.not_false, Bool.and_true, Bool.true_and, Bool.and_false, Bool.false_and, Bool.not_eq_true, beq_self_eq_true, Nat.add_zero, Int.reduceLE, Int.reduceLT, Int.reduceToNat, Int.reduceNeg, h16, hc0, Nat.sub_zero, Nat.zero_mul, b1]
  exact ⟨fin, show 16 ≤ c by omega⟩
def grtB (c r u : Nat) : List Nat := [c, r] ++ high4 u
def grtS (key : List Nat) (c r u : Nat) : List Nat := grtB c r u ++ (macS key (grtB c r u)).take 16
theorem grtB_length (c r u : Nat) : (grtB c r u).length = 6 := rfl
theorem grtS_length (key : List Nat) (c r u : Nat) : (grtS key c r u).length = 22 := by
  rw [grtS, List.length_append, grtB_length, List.length_take, macS_length]; rfl
def grtErr (kl : Nat) (c r u : Int) : Int := if kl ≠ 32 then 1 else tokErr c r u
def GrtRes (B : Nat) (h' : Hp) (v' : Value) (key : List Nat) (c r u : Int) : Prop := ∃ w, v' = .tuple [w, .int .i64 (grtErr key.length c r u)].toArray ∧ OBs B 5 h' w (if grtErr key.length c r u = 0 then grtS key c.toNat r.toNat u.toNat else [])
theorem tokErr_nats {c r u : Int} (h : tokErr c r u = 0) : ∃ c' r' u' : Nat, c = c' ∧ r = r' ∧ u = u' ∧ c' < 8 ∧ r' < 8 ∧ u' ≤ 1048576 := by
  unfold tokErr at h
  split at h
  · cases h
  · exact ⟨c.toNat, r.toNat, u.toNat, by omega, by omega, by omega, by omega, by omega, by omega⟩
theorem grant_ok (T : World) (h : Hp) (v : Value) (key : List Nat) (c r u : Int) (s : Bs h v key) (tk : Tk h) :
    CallsH Tryd.prog T 35 #[v, .agg (tokC c r u).toArray] h fun v' h' => GrtRes h.size h' v' key c r u ∧ Bel h.size h h' := by
  obtain ⟨p, cp, rfl, _⟩ := s.open
  refine CallsH.of_code' (args := [_, _]) Tryd.func35 rfl rfl rfl rfl ?_
  unfold GrtRes tokC
  by_cases hk : key.length = 32
  case neg =>
    have ee : grtErr key.length c r u = 1 := by unfold grtErr; rw [if_pos hk]
    have hk' : ¬ (key.length : Int) = 32 := by omega
    rw [ee]
    simp (config := {maxSteps := 2000000, implicitDefEqProofs := false}) only [go_sem, ↓reduceIte, Nat.reduceEqDiff, Nat.reduceAdd, Nat.reduceMul, Nat.reduceLeDiff, Nat.reduceLT, Nat.reduceSub, IntWalk.iteOmega, IntWalk.toNatUp, reduceCtorEq, false_and, and_false, false_or, or_false, true_or, or_true, not_true_eq_false, not_false_eq_true, Bool.not_true, Bool.not_false, Bool.and_true, Bool.true_and, Bool.and_false, Bool.false_and, Bool.not_eq_true, beq_self_eq_true, Nat.add_zero, Int.reduceLE, Int.reduceLT, Int.reduceToNat, Int.reduceNeg, hk']
    exact ⟨_, rfl, OBs.nil _ _ _⟩
  have hk' : (key.length : Int) = 32 := by omega
  have ee : grtErr key.length c r u = tokErr c r u := by unfold grtErr; rw [if_neg (by omega)]
  rw [ee]
  simp (config := {maxSteps := 2000000, implicitDefEqProofs := false}) only [go_sem, ↓reduceIte, Nat.reduceEqDiff, Nat.reduceAdd, Nat.reduceMul, Nat.reduceLeDiff, Nat.reduceLT, Nat.reduceSub, IntWalk.iteOmega, IntWalk.toNatUp, reduceCtorEq, false_and, and_false, false_or, or_false, true_or, or_true, not_true_eq_false, not_false_eq_true, Bool.not_true, Bool.not_false, Bool.and_true, Bool.true_and, Bool.and_false, Bool.false_and, Bool.not_eq_true, beq_self_eq_true, Nat.add_zero, Int.reduceLE, Int.reduceLT, Int.reduceToNat, Int.reduceNeg, hk']
  refine (token_ok T _ c r u).use ?_
  rintro _ _ ⟨rfl, rfl⟩
  unfold tokC
  by_cases q : tokErr c r u = 0
  case neg =>
    simp (config := {maxSteps := 2000000, implicitDefEqProofs := false}) only [go_sem, ↓reduceIte, Nat.reduceEqDiff, Nat.reduceAdd, Nat.reduceMul, Nat.reduceLeDiff, Nat.reduceLT, Nat.reduceSub, IntWalk.iteOmega, IntWalk.toNatUp, reduceCtorEq, false_and, and_false, false_or, or_false, true_or, or_true, not_true_eq_false, not_false_eq_true, Bool.not_true, Bool.not_false, Bool.and_true, Bool.true_and, Bool.and_false, Bool.false_and, Bool.not_eq_true, beq_self_eq_true, Nat.add_zero, Int.reduceLE, Int.reduceLT, Int.reduceToNat, Int.reduceNeg, q]
    exact ⟨_, rfl, OBs.nil _ _ _⟩
  obtain ⟨c, r, u, rfl, rfl, rfl, hc, hr, hu⟩ := tokErr_nats q
  rw [q]
  have ec : (c : Int) % 256 = (c : Int) := by omega
  have er : (r : Int) % 256 = (r : Int) := by omega
  simp only [Int.toNat_natCast]
  simp (config := {maxSteps := 2000000, implicitDefEqProofs := false}) only [go_sem, ↓reduceIte, Nat.reduceEqDiff, Nat.reduceAdd, Nat.reduceMul, Nat.reduceLeDiff, Nat.reduceLT, Nat.reduceSub, IntWalk.iteOmega, IntWalk.toNatUp, reduceCtorEq, false_and, and_false, false_or, or_false, true_or, or_true, not_true_eq_false, not_false_eq_true, Bool.not_true, Bool.not_false, Bool.and_true, Bool.true_and, Bool.and_false, Bool.false_and, Bool.not_eq_true, beq_self_eq_true, Nat.add_zero, Int.reduceLE, Int.reduceLT, Int.reduceToNat, Int.reduceNeg, ec, er]
  obtain ⟨h1, hh1⟩ : ∃ h1 : Hp, h1 = (h.push (.cells [Value.int .i64 c, .int .i64 r, .int .i64 u].toArray 23)).push (.cells [Value.int .i64 c, .int .i64 r, .int .i64 u].toArray 23) := ⟨_, rfl⟩
  have b1 : Bel h.size h h1 := by rw [hh1]; exact ((Bel.refl _ _).add _).add _
  have s1 : h1.size = h.size + 1 + 1 := by rw [hh1]; simp
  rw [← s1, ← hh1]
  clear hh1
  have hb2 : ∀ x ∈ [c, r], x < 256 := by
    intro x hx
    simp only [List.mem_cons, List.not_mem_nil, or_false] at hx
    omega
  have o2 : OBs h1.size 5 (h1.push (.cells (([c, r] : List Nat).map bv).toArray 5)) (.slice (some ⟨h1.size, 0, none⟩) 2 2) [c, r] := OBs.made hb2 (Nat.le_refl _)
  have B2 : Bel h1.size h1 (h1.push (.cells (([c, r] : List Nat).map bv).toArray 5)) := Bel.push (Nat.le_refl _) _
  refine (four_ok T _ h1.size _ [c, r] u o2 (by simp) (by simp) (by omega)).use ?_
  rintro w3 h3 ⟨o3, b3⟩
  have B3 := B2.trans b3
  have Bh3 : Bel h.size h h3 := b1.trans (B3.mono (by omega))
  have o3' : OBs h1.size 5 h3 w3 (grtB c r u) := o3
  have gl := grtB_length c r u
  unfold grtS
  generalize grtB c r u = G at *
  simp (config := {maxSteps := 2000000, implicitDefEqProofs := false}) only [go_sem, ↓reduceIte, Nat.reduceEqDiff, Nat.reduceAdd, Nat.reduceMul, Nat.reduceLeDiff, Nat.reduceLT, Nat.reduceSub, IntWalk.iteOmega, IntWalk.toNatUp, reduceCtorEq, false_and, and_false, false_or, or_false, true_or, or_true, not_true_eq_false, not_false_eq_true, Bool.not_true, Bool.not_false, Bool.and_true, Bool.true_and, Bool.and_false, Bool.false_and, Bool.not_eq_true, beq_self_eq_true, Nat.add_zero, Int.reduceLE, Int.reduceLT, Int.reduceToNat, Int.reduceNeg]
  rw [← hk']
  refine (proof_ok T h3 _ w3 key G (s.bel Bh3) o3'.bs (by omega) (by omega) (tk.bels Bh3)).use ?_
  rintro w4 h4 ⟨⟨s4, _⟩, b4⟩
  have s3 := B3.size
  have o34 := o3'.bel b4 (Nat.le_refl _)
  have Bh4 := Bh3.trans (b4.mono Bh3.size)
  simp (config := {maxSteps := 2000000, implicitDefEqProofs := false}) only [go_sem, ↓reduceIte, Nat.reduceEqDiff, Nat.reduceAdd, Nat.reduceMul, Nat.reduceLeDiff, Nat.reduceLT, Nat.reduceSub, IntWalk.iteOmega, IntWalk.toNatUp, reduceCtorEq, false_and, and_false, false_or, or_false, true_or, or_true, not_true_eq_false, not_false_eq_true, Bool.not_true, Bool.not_false, Bool.and_true, Bool.true_and, Bool.and_false, Bool.false_and, Bool.not_eq_true, beq_self_eq_true, Nat.add_zero, Int.reduceLE, Int.reduceLT, Int.reduceToNat, Int.reduceNeg]
  refine append_bytes (E := 5) (B := h1.size) tsl29 Tryd.underlying29 tn5 tz5 tb5 o34 (by have := b4.size; omega) s4 (by rw [gl, List.length_take]; omega) ?_
  intro w5 h5 o5 b5 _
  have Bh5 := Bh4.trans (b5.mono (by omega))
  simp (config := {maxSteps := 2000000, implicitDefEqProofs := false}) only [go_sem, ↓reduceIte, Nat.reduceEqDiff, Nat.reduceAdd, Nat.reduceMul, Nat.reduceLeDiff, Nat.reduceLT, Nat.reduceSub, IntWalk.iteOmega, IntWalk.toNatUp, reduceCtorEq, false_and, and_false, false_or, or_false, true_or, or_true, not_true_eq_false, not_false_eq_true, Bool.not_true, Bool.not_false, Bool.and_true, Bool.true_and, Bool.and_false, Bool.false_and, Bool.not_eq_true, beq_self_eq_true, Nat.add_zero, Int.reduceLE, Int.reduceLT, Int.reduceToNat, Int.reduceNeg, Bh5]
  exact ⟨_, rfl, o5.mono (by omega)⟩
theorem granted_ok (T : World) (h : Hp) (v : Value) (key : List Nat) (c r u : Int) (s : Bs h v key) :
    CallsH Tryd.prog T 36 #[v, .agg (tokC c r u).toArray] h fun v' h' => GrtRes h.size h' v' key c r u ∧ Bel h.size h h' := by
  obtain ⟨p, cp, rfl, _⟩ := s.open
  refine CallsH.of_code' (args := [_, _]) Tryd.func36 rfl rfl rfl rfl ?_
  unfold GrtRes tokC
  by_cases hk : key.length = 32
  case neg =>
    have ee : grtErr key.length c r u = 1 := by unfold grtErr; rw [if_pos hk]
    have hk' : ¬ (key.length : Int) = 32 := by omega
    rw [ee]
    simp (config := {maxSteps := 2000000, implicitDefEqProofs := false}) only [go_sem, ↓reduceIte, Nat.reduceEqDiff, Nat.reduceAdd, Nat.reduceMul, Nat.reduceLeDiff, Nat.reduceLT, Nat.reduceSub, IntWalk.iteOmega, IntWalk.toNatUp, reduceCtorEq, false_and, and_false, false_or, or_false, true_or, or_true, not_true_eq_false, not_false_eq_true, Bool.not_true, Bool.not_false, Bool.and_true, Bool.true_and, Bool.and_false, Bool.false_and, Bool.not_eq_true, beq_self_eq_true, Nat.add_zero, Int.reduceLE, Int.reduceLT, Int.reduceToNat, Int.reduceNeg, hk']
    exact ⟨_, rfl, OBs.nil _ _ _⟩
  have hk' : (key.length : Int) = 32 := by omega
  have ee : grtErr key.length c r u = tokErr c r u := by unfold grtErr; rw [if_neg (by omega)]
  rw [ee]
  simp (config := {maxSteps := 2000000, implicitDefEqProofs := false}) only [go_sem, ↓reduceIte, Nat.reduceEqDiff, Nat.reduceAdd, Nat.reduceMul, Nat.reduceLeDiff, Nat.reduceLT, Nat.reduceSub, IntWalk.iteOmega, IntWalk.toNatUp, reduceCtorEq, false_and, and_false, false_or, or_false, true_or, or_true, not_true_eq_false, not_false_eq_true, Bool.not_true, Bool.not_false, Bool.and_true, Bool.true_and, Bool.and_false, Bool.false_and, Bool.not_eq_true, beq_self_eq_true, Nat.add_zero, Int.reduceLE, Int.reduceLT, Int.reduceToNat, Int.reduceNeg, hk']
  refine (tokenFault_ok T _ c r u).use ?_
  rintro _ _ ⟨rfl, rfl⟩
  unfold tokC
  by_cases q : tokErr c r u = 0
  case neg =>
    simp (config := {maxSteps := 2000000, implicitDefEqProofs := false}) only [go_sem, ↓reduceIte, Nat.reduceEqDiff, Nat.reduceAdd, Nat.reduceMul, Nat.reduceLeDiff, Nat.reduceLT, Nat.reduceSub, IntWalk.iteOmega, IntWalk.toNatUp, reduceCtorEq, false_and, and_false, false_or, or_false, true_or, or_true, not_true_eq_false, not_false_eq_true, Bool.not_true, Bool.not_false, Bool.and_true, Bool.true_and, Bool.and_false, Bool.false_and, Bool.not_eq_true, beq_self_eq_true, Nat.add_zero, Int.reduceLE, Int.reduceLT, Int.reduceToNat, Int.reduceNeg, q]
    exact ⟨_, rfl, OBs.nil _ _ _⟩
  obtain ⟨c, r, u, rfl, rfl, rfl, hc, hr, hu⟩ := tokErr_nats q
  rw [q]
  have ec : (c : Int) % 256 = (c : Int) := by omega
  have er : (r : Int) % 256 = (r : Int) := by omega
  simp only [Int.toNat_natCast]
  obtain ⟨h1, hh1⟩ : ∃ h1 : Hp, h1 = (h.push (.cells [Value.int .i64 c, .int .i64 r, .int .i64 u].toArray 23)).push (.cells [Value.int .i64 c, .int .i64 r, .int .i64 u].toArray 23) := ⟨_, rfl⟩
  have b1 : Bel h.size h h1 := by rw [hh1]; exact ((Bel.refl _ _).add _).add _
  have s1 : h1.size = h.size + 1 + 1 := by rw [hh1]; simp
  have c0 : V.hc h1 ⟨h.size, 0, none⟩ = some (.int .i64 (c : Nat)) := by rw [hh1, hc_push, if_neg (by simp), hc_push, if_pos rfl]; rfl
  have c1 : V.hc h1 ⟨h.size, 1, none⟩ = some (.int .i64 (r : Nat)) := by rw [hh1, hc_push, if_neg (by simp), hc_push, if_pos rfl]; rfl
  have c2 : V.hc h1 ⟨h.size, 2, none⟩ = some (.int .i64 (u : Nat)) := by rw [hh1, hc_push, if_neg (by simp), hc_push, if_pos rfl]; rfl
  have hlt : h.size < h1.size := by omega
  simp (config := {maxSteps := 2000000, implicitDefEqProofs := false}) only [go_sem, ↓reduceIte, Nat.reduceEqDiff, Nat.reduceAdd, Nat.reduceMul, Nat.reduceLeDiff, Nat.reduceLT, Nat.reduceSub, IntWalk.iteOmega, IntWalk.toNatUp, reduceCtorEq, false_and, and_false, false_or, or_false, true_or, or_true, not_true_eq_false, not_false_eq_true, Bool.not_true, Bool.not_false, Bool.and_true, Bool.true_and, Bool.and_false, Bool.false_and, Bool.not_eq_true, beq_self_eq_true, Nat.add_zero, Int.reduceLE, Int.reduceLT, Int.reduceToNat, Int.reduceNeg]
  rw [← hh1]
  clear hh1
  have hb2 : ∀ x ∈ [c, r], x < 256 := by
    intro x hx
    simp only [List.mem_cons, List.not_mem_nil, or_false] at hx
    omega
  refine VS.mono (N := fun F g => Bel h.size h g ∧ F 0 = .slice p key.length cp ∧ OBs h1.size 5 g (F 7) (grtB c r u)) ?_ ?_ (fun _ _ _ h => h) (fun _ _ h => h)
  · refine VS.w (h1.size) [] (.q 0 (.q 1 (.q 2 (.q 3 (.q 4 (.q 5 (.q 7 (.q 8 (.or 6 (.s 9 (.s 10 (.q 11 .nil))) (.s 9 (.s 6 (.s 10 (.q 11 .nil))))))))))))) mixed (by kernel_rfl) ?_
    simp (config := {maxSteps := 2000000, implicitDefEqProofs := false}) only [go_sem, ↓reduceIte, Nat.reduceEqDiff, Nat.reduceAdd, Nat.reduceMul, Nat.reduceLeDiff, Nat.reduceLT, Nat.reduceSub, IntWalk.iteOmega, IntWalk.toNatUp, reduceCtorEq, false_and, and_false, false_or, or_false, true_or, or_true, not_true_eq_false, not_false_eq_true, Bool.not_true, Bool.not_false, Bool.and_true, Bool.true_and, Bool.and_false, Bool.false_and, Bool.not_eq_true, beq_self_eq_true, Nat.add_zero, Int.reduceLE, Int.reduceLT, Int.reduceToNat, Int.reduceNeg, c0, c1, c2, ec, er, hlt]
    refine ⟨?_, ?_⟩
    · have B2 : Bel h1.size h1 (h1.push (.cells (([c, r] : List Nat).map bv).toArray 5)) := Bel.push (Nat.le_refl _) _
      have o2 : Bs (h1.push (.cells (([c, r] : List Nat).map bv).toArray 5)) (.slice (some ⟨h1.size, 0, none⟩) 2 2) [c, r] := Bs.made hb2 2
      refine (headOf_ok T _ u (by omega)).use ?_
      rintro w3 h3 ⟨s3, b3⟩
      have B3 := B2.trans (b3.mono B2.size)
      have o23 := o2.bel b3
      simp (config := {maxSteps := 2000000, implicitDefEqProofs := false}) only [go_sem, ↓reduceIte, Nat.reduceEqDiff, Nat.reduceAdd, Nat.reduceMul, Nat.reduceLeDiff, Nat.reduceLT, Nat.reduceSub, IntWalk.iteOmega, IntWalk.toNatUp, reduceCtorEq, false_and, and_false, false_or, or_false, true_or, or_true, not_true_eq_false, not_false_eq_true, Bool.not_true, Bool.not_false, Bool.and_true, Bool.true_and, Bool.and_false, Bool.false_and, Bool.not_eq_true, beq_self_eq_true, Nat.add_zero, Int.reduceLE, Int.reduceLT, Int.reduceToNat, Int.reduceNeg, B3]
      refine (joined_ok T h3 _ w3 [c, r] (high4 u) o23 s3 (by simp [high4])).use ?_
      rintro w5 h5 ⟨o5, b5⟩
      have B5 := B3.trans (b5.mono B3.size)
      have Bh5 := b1.trans (B5.mono (by omega))
      simp (config := {maxSteps := 2000000, implicitDefEqProofs := false}) only [go_sem, ↓reduceIte, Nat.reduceEqDiff, Nat.reduceAdd, Nat.reduceMul, Nat.reduceLeDiff, Nat.reduceLT, Nat.reduceSub, IntWalk.iteOmega, IntWalk.toNatUp, reduceCtorEq, false_and, and_false, false_or, or_false, true_or, or_true, not_true_eq_false, not_false_eq_true, Bool.not_true, Bool.not_false, Bool.and_true, Bool.true_and, Bool.and_false, Bool.false_and, Bool.not_eq_true, beq_self_eq_true, Nat.add_zero, Int.reduceLE, Int.reduceLT, Int.reduceToNat, Int.reduceNeg, B5, Bh5]
      exact o5.mono B3.size
    · refine (headOf_ok T _ u (by omega)).use ?_
      rintro w3 h3 ⟨s3, b3⟩
      have B3 := b3
      have B4 : Bel h1.size h1 (h3.push (.cells (([c, r] : List Nat).map bv).toArray 5)) := B3.addP B3.size _
      have o2 : Bs (h3.push (.cells (([c, r] : List Nat).map bv).toArray 5)) (.slice (some ⟨h3.size, 0, none⟩) 2 2) [c, r] := Bs.made hb2 2
      have s3' := s3.bel (Bel.push (Nat.le_refl h3.size) (.cells (([c, r] : List Nat).map bv).toArray 5))
      simp (config := {maxSteps := 2000000, implicitDefEqProofs := false}) only [go_sem, ↓reduceIte, Nat.reduceEqDiff, Nat.reduceAdd, Nat.reduceMul, Nat.reduceLeDiff, Nat.reduceLT, Nat.reduceSub, IntWalk.iteOmega, IntWalk.toNatUp, reduceCtorEq, false_and, and_false, false_or, or_false, true_or, or_true, not_true_eq_false, not_false_eq_true, Bool.not_true, Bool.not_false, Bool.and_true, Bool.true_and, Bool.and_false, Bool.false_and, Bool.not_eq_true, beq_self_eq_true, Nat.add_zero, Int.reduceLE, Int.reduceLT, Int.reduceToNat, Int.reduceNeg, B3]

      refine (joined_ok T _ _ w3 [c, r] (high4 u) o2 s3' (by simp [high4])).use ?_
      rintro w5 h5 ⟨o5, b5⟩
      have B5 := B4.trans (b5.mono B4.size)
      have Bh5 := b1.trans (B5.mono (by omega))
      simp (config := {maxSteps := 2000000, implicitDefEqProofs := false}) only [go_sem, ↓reduceIte, Nat.reduceEqDiff, Nat.reduceAdd, Nat.reduceMul, Nat.reduceLeDiff, Nat.reduceLT, Nat.reduceSub, IntWalk.iteOmega, IntWalk.toNatUp, reduceCtorEq, false_and, and_false, false_or, or_false, true_or, or_true, not_true_eq_false, not_false_eq_true, Bool.not_true, Bool.not_false, Bool.and_true, Bool.true_and, Bool.and_false, Bool.false_and, Bool.not_eq_true, beq_self_eq_true, Nat.add_zero, Int.reduceLE, Int.reduceLT, Int.reduceToNat, Int.reduceNeg, B5, Bh5]
      exact o5.mono B4.size
  rintro F g ⟨bg, f0, o7⟩
  have gl := grtB_length c r u
  unfold grtS
  generalize grtB c r u = G at *
  simp (config := {maxSteps := 2000000, implicitDefEqProofs := false}) only [go_sem, ↓reduceIte, Nat.reduceEqDiff, Nat.reduceAdd, Nat.reduceMul, Nat.reduceLeDiff, Nat.reduceLT, Nat.reduceSub, IntWalk.iteOmega, IntWalk.toNatUp, reduceCtorEq, false_and, and_false, false_or, or_false, true_or, or_true, not_true_eq_false, not_false_eq_true, Bool.not_true, Bool.not_false, Bool.and_true, Bool.true_and, Bool.and_false, Bool.false_and, Bool.not_eq_true, beq_self_eq_true, Nat.add_zero, Int.reduceLE, Int.reduceLT, Int.reduceToNat, Int.reduceNeg, f0]
  refine (macced_ok T g _ (F 7) key G (s.bel bg) o7.bs (by omega) (by omega)).use ?_
  rintro w4 h4 ⟨o4, b4⟩
  have o74 := o7.bel b4 (Nat.le_refl _)
  have Bh4 := bg.trans (b4.mono bg.size)
  have ml := macS_length key G
  generalize macS key G = M at *
  obtain ⟨p4, c4, rfl, hc4⟩ := o4.open
  have sM := o4.bs
  obtain ⟨p', c', hv, hh⟩ := sM.opend
  simp only [Value.slice.injEq] at hv
  obtain ⟨rfl, _, rfl⟩ := hv
  obtain ⟨bb, ob, rfl, _⟩ := hh (by intro e; rw [e] at ml; cases ml)
  have fin := Bs.fore sM (m := 16) (by omega) c4
  rw [ml] at hc4 ⊢
  have h16 : (16 : Int) ≤ (c4 : Int) := by omega
  have hc0 : ¬ c4 = 0 := by omega
  simp (config := {maxSteps := 2000000, implicitDefEqProofs := false}) only [go_sem, ↓reduceIte, Nat.reduceEqDiff, Nat.reduceAdd, Nat.reduceMul, Nat.reduceLeDiff, Nat.reduceLT, Nat.reduceSub, IntWalk.iteOmega, IntWalk.toNatUp, reduceCtorEq, false_and, and_false, false_or, or_false, true_or, or_true, not_true_eq_false, not_false_eq_true, Bool.not_true, Bool.not_false, Bool.and_true, Bool.true_and, Bool.and_false, Bool.false_and, Bool.not_eq_true, beq_self_eq_true, Nat.add_zero, Int.reduceLE, Int.reduceLT, Int.reduceToNat, Int.reduceNeg, h16, hc0, Nat.sub_zero, Nat.zero_mul]
  refine (joined_ok T h4 _ _ G (M.take 16) o74.bs fin (by rw [gl, List.length_take]; omega)).use ?_
  rintro w5 h5 ⟨o5, b5⟩
  have Bh5 := Bh4.trans (b5.mono Bh4.size)
  simp (config := {maxSteps := 2000000, implicitDefEqProofs := false}) only [go_sem, ↓reduceIte, Nat.reduceEqDiff, Nat.reduceAdd, Nat.reduceMul, Nat.reduceLeDiff, Nat.reduceLT, Nat.reduceSub, IntWalk.iteOmega, IntWalk.toNatUp, reduceCtorEq, false_and, and_false, false_or, or_false, true_or, or_true, not_true_eq_false, not_false_eq_true, Bool.not_true, Bool.not_false, Bool.and_true, Bool.true_and, Bool.and_false, Bool.false_and, Bool.not_eq_true, beq_self_eq_true, Nat.add_zero, Int.reduceLE, Int.reduceLT, Int.reduceToNat, Int.reduceNeg, Bh5]
  exact ⟨_, rfl, o5.mono Bh4.size⟩
end Go.Proofs.YtnpacofabdgcdaaDoor
