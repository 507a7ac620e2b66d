/- VaultAudits holds: vault.Audit answers what the document says, at every argument, and changes none of them; the table of numbers as the program lays it. -/
import Derived.Test.YtnpacofabdgcdaaDoorAudx
import Derived.Test.YtnpacofabdgcdaaDoorCards
import Derived.Test.YtnpacofabdgcdaaDoorTie
namespace Go.Proofs.YtnpacofabdgcdaaDoor
open Go Go.V
set_option linter.unusedSimpArgs false
set_option linter.unusedVariables false
set_option maxRecDepth 100000
theorem ents_of {h : Hp} {N : Nat} : ∀ {es : List EntV}, (∀ e ∈ es, ∃ bs, Bs h (.slice e.p e.m e.cp) bs ∧ bs.length ≤ N) → ∃ l, Ents (fun w s => Bs h w s) es l ∧ ∀ t ∈ l, t.sum.length ≤ N := by
  intro es
  induction es with
  | nil => intro _; exact ⟨[], trivial, fun t ht => by cases ht⟩
  | cons e es ih =>
    intro H
    obtain ⟨l, h1, h2⟩ := ih (fun x hx => H x (List.mem_cons_of_mem _ hx))
    obtain ⟨bs, q, hq⟩ := H e (List.mem_cons_self ..)
    refine ⟨⟨e.x, e.a, e.b, bs⟩ :: l, ⟨⟨rfl, rfl, rfl, q⟩, h1⟩, fun t ht => ?_⟩
    rcases List.mem_cons.1 ht with rfl | ht
    · exact hq
    · exact h2 t ht
theorem fit_ents {h : Hp} {k : Nat} {v : Value} (hf : fit Tryd.prog h k 47 [v]) : ∃ l : List Etv, TEnts h v l ∧ l.length ≤ 1759218604441 ∧ ∀ t ∈ l, t.sum.length ≤ 140737488355328 := by
  obtain ⟨es, h1, h2, h3⟩ := fit_slice (α := EntV) (enc := entC) (n := 8) (ok := fun e => ∃ bs, Bs h (.slice e.p e.m e.cp) bs ∧ bs.length ≤ 140737488355328) Tryd.underlying47 (by kernel_rfl) (by decide) (fun _ => rfl) (fun k ds hfe => by
    obtain ⟨ds, rfl⟩ : ∃ ds', ds = ds' := ⟨_, rfl⟩
    have hlen : ds.length = 8 := by
      cases k with
      | zero => exact hfe.elim
      | succ k => unfold fit at hfe; rw [Tryd.underlying112] at hfe; exact hfe.1
    have hL := fit_leaf (P := Tryd.prog) (h := h) 8 k 112 ds (rep 5 [3] ++ [26, 3, 29]) (by kernel_rfl) (by rw [hlen]; decide) hfe
    obtain ⟨a0, _, rfl, _, _, hL⟩ := fitL_int Tryd.underlying3 hL
    obtain ⟨a1, _, rfl, _, _, hL⟩ := fitL_int Tryd.underlying3 hL
    obtain ⟨a2, _, rfl, _, _, hL⟩ := fitL_int Tryd.underlying3 hL
    obtain ⟨a3, _, rfl, _, _, hL⟩ := fitL_int Tryd.underlying3 hL
    obtain ⟨a4, _, rfl, _, _, hL⟩ := fitL_int Tryd.underlying3 hL
    obtain ⟨a5, _, rfl, _, _, hL⟩ := fitL_int Tryd.underlying26 hL
    obtain ⟨a6, _, rfl, _, _, hL⟩ := fitL_int Tryd.underlying3 hL
    obtain ⟨w, _, k1, rfl, hw, hL⟩ := fitL_cell hL
    obtain rfl := fitL_nil hL
    obtain ⟨bs, s, hl⟩ := fit_bytes Tryd.underlying29 Tryd.underlying5 (by kernel_rfl) (by kernel_rfl) hw
    obtain ⟨p, c, rfl, _⟩ := s.open
    exact ⟨⟨⟨a0, a1, a2, a3, a4⟩, a5, a6, p, bs.length, c⟩, ⟨bs, s, hl⟩, rfl⟩) hf
  obtain ⟨l, g1, g2⟩ := ents_of h2
  refine ⟨l, ⟨es, ⟨h1⟩, g1⟩, ?_, g2⟩
  have : Tryd.prog.bytesOf 112 = 80 := by kernel_rfl
  rw [this] at h3
  rw [← g1.length]
  omega
theorem entriesLaw_ok (T : World) (h : Hp) (u : Value) (l : List Etv) (s : TEnts h u l) (hl : l.length ≤ 1759218604441) (hs : ∀ t ∈ l, t.sum.length ≤ 140737488355328) :
    CallsH Tryd.prog T 43 #[u] h fun v' h' => OEnts h.size h' v' l ∧ Bel h.size h h' := by
  obtain ⟨p, cp, rfl, hc1⟩ := s.open
  refine CallsH.of_code' (args := [_]) Tryd.func43 rfl rfl rfl rfl ?_
  simp (config := {maxSteps := 2000000, implicitDefEqProofs := false}) only [go_sem, ↓reduceIte, Nat.reduceEqDiff, Nat.reduceAdd, Nat.reduceMul, Nat.reduceLeDiff, Nat.reduceLT, Nat.reduceSub, IntWalk.iteOmega, IntWalk.toNatUp, reduceCtorEq, false_and, and_false, false_or, or_false, true_or, or_true, not_true_eq_false, not_false_eq_true, Bool.not_true, Bool.not_false, Bool.and_true, Bool.true_and, Bool.and_false, Bool.false_and, Bool.not_eq_true, beq_self_eq_true, Nat.add_zero, Int.reduceLE, Int.reduceLT, Int.reduceToNat, Int.reduceNeg]
  refine VS.loop' (fun F g => Bel h.size h g ∧ F 0 = .slice p l.length cp ∧ ∃ i : Nat, i ≤ l.length ∧ F 4 = .int .i64 i ∧ OEnts h.size g (F 3) (l.take i))
    (fun F _ => l.length - (vi (F 4)).toNat) rfl ⟨Bel.refl _ _, rfl, 0, by omega, rfl, OEnts.nil _ _⟩ ?_
  rintro F g ⟨hg, f0, i, hi, f4, ho⟩
  have gs := hg.size
  by_cases hlt : i < l.length
  · have hlt' : (i : Int) < l.length := by omega
    obtain ⟨bb, oo, rfl, hbb, hcs⟩ := hc1 (by intro e; rw [e] at hlt; simp at hlt)
    obtain ⟨q1, m1, k1, r1, t1⟩ := hcs i hlt
    have c0 := ents_rd (i := i) (o := oo) (b := bb) r1 rfl 0 5 (by omega) (by omega)
    have c5 := ents_rd (i := i) (o := oo) (b := bb) r1 rfl 5 2 (by omega) (by omega)
    have c7 := r1.hc (i := 7) rfl
    simp only [List.drop_zero, List.take_succ_cons, List.take_zero, List.drop_succ_cons, Nat.add_zero] at c0 c5
    rw [← rd_bel hg (by exact hbb)] at c0 c5
    rw [← hg.hc (by exact hbb)] at c7
    have etk : l.take (i + 1) = l.take i ++ [l[i]] := take_snoc l i hlt
    have hsi := hs l[i] (List.getElem_mem hlt)
    have t2 := t1.bel hg
    generalize l[i] = y at *
    obtain ⟨x, ya, yb, ys⟩ := y
    simp only at c0 c5 hsi t2
    obtain ⟨p3, c3, f3⟩ := ho.open
    rw [f3] at ho
    have ltk : (l.take i).length = i := by rw [List.length_take]; omega
    simp (config := {maxSteps := 2000000, implicitDefEqProofs := false}) only [go_sem, ↓reduceIte, Nat.reduceEqDiff, Nat.reduceAdd, Nat.reduceMul, Nat.reduceLeDiff, Nat.reduceLT, Nat.reduceSub, IntWalk.iteOmega, IntWalk.toNatUp, reduceCtorEq, false_and, and_false, false_or, or_false, true_or, or_true, not_true_eq_false, not_false_eq_true, Bool.not_true, Bool.not_false, Bool.and_true, Bool.true_and, Bool.and_false, Bool.false_and, Bool.not_eq_true, beq_self_eq_true, Nat.add_zero, Int.reduceLE, Int.reduceLT, Int.reduceToNat, Int.reduceNeg, f0, f4, hlt']
    refine VS.w (h.size) [] (.q 0 (.q 1 (.q 2 (.q 3 (.q 4 (.q 5 (.q 6 (.q 7 (.q 8 (.q 9 (.q 10 (.q 11 (.q 12 (.q 13 (.q 14 (.q 15 (.s 16 (.q 17 (.s 18 (.s 19 (.q 20 .nil))))))))))))))))))))) mixed (by kernel_rfl) ?_
    simp (config := {maxSteps := 2000000, implicitDefEqProofs := false}) only [go_sem, ↓reduceIte, Nat.reduceEqDiff, Nat.reduceAdd, Nat.reduceMul, Nat.reduceLeDiff, Nat.reduceLT, Nat.reduceSub, IntWalk.iteOmega, IntWalk.toNatUp, reduceCtorEq, false_and, and_false, false_or, or_false, true_or, or_true, not_true_eq_false, not_false_eq_true, Bool.not_true, Bool.not_false, Bool.and_true, Bool.true_and, Bool.and_false, Bool.false_and, Bool.not_eq_true, beq_self_eq_true, Nat.add_zero, Int.reduceLE, Int.reduceLT, Int.reduceToNat, Int.reduceNeg, f0, f3, f4, hbb, c0, c5, c7, hlt']
    refine (octets_ok T g _ ys t2 hsi).use ?_
    rintro w5 h5 ⟨o5, b5⟩
    obtain ⟨p5, c5', rfl, _⟩ := o5.open
    have z5 := b5.size
    have oe5 := ho.bel b5 (Nat.le_refl _)
    obtain ⟨es, s1, s2⟩ := oe5.ex
    have les := s2.length
    have hone := Ts.one (E := 112) (h := h5) (enc := entC) (n := 8) ⟨x, ya, yb, p5, ys.length, c5'⟩ (fun _ => rfl) 1
    unfold entC at hone
    have Bg5 : Bel h.size g h5 := b5.mono gs
    have B5p : Bel h.size g (h5.push (.cells [.int .i64 x.k, .int .i64 x.c, .int .i64 x.s, .int .i64 x.n, .int .i64 x.v, .int .i64 ya, .int .i64 yb, .slice p5 ys.length c5'].toArray 112)) := Bg5.addP (by omega) _
    simp (config := {maxSteps := 2000000, implicitDefEqProofs := false}) only [go_sem, ↓reduceIte, Nat.reduceEqDiff, Nat.reduceAdd, Nat.reduceMul, Nat.reduceLeDiff, Nat.reduceLT, Nat.reduceSub, IntWalk.iteOmega, IntWalk.toNatUp, reduceCtorEq, false_and, and_false, false_or, or_false, true_or, or_true, not_true_eq_false, not_false_eq_true, Bool.not_true, Bool.not_false, Bool.and_true, Bool.true_and, Bool.and_false, Bool.false_and, Bool.not_eq_true, beq_self_eq_true, Nat.add_zero, Int.reduceLE, Int.reduceLT, Int.reduceToNat, Int.reduceNeg, Bg5, B5p]
    refine append_ts (E := 112) (B := h.size) (n := 8) (bytes := 80) tsl47 Tryd.underlying47 tn112 tz112 rfl tb112 entC_one (s1.push _) (by simp; omega) hone (by simp only [List.length_singleton]; omega) (by omega) ?_
    intro w6 h6 o6 _ b6
    have s2' := OEnts.app (s1.push _) (s2.mono (fun w t q => q.push _)) b6
    have b56 : Bel h.size (h5.push (.cells [.int .i64 x.k, .int .i64 x.c, .int .i64 x.s, .int .i64 x.n, .int .i64 x.v, .int .i64 ya, .int .i64 yb, .slice p5 ys.length c5'].toArray 112)) h6 := b6.bel (by simp; omega) s1.own.blk
    have Bg6 : Bel h.size g h6 := B5p.trans b56
    have q5 := ((o5.mono (B' := h.size) (by omega)).push (.cells [.int .i64 x.k, .int .i64 x.c, .int .i64 x.s, .int .i64 x.n, .int .i64 x.v, .int .i64 ya, .int .i64 yb, .slice p5 ys.length c5'].toArray 112)).but b6 (fun b hb => own_apart (by decide) o5.own s1.own b hb)
    simp (config := {maxSteps := 2000000, implicitDefEqProofs := false}) only [go_sem, ↓reduceIte, Nat.reduceEqDiff, Nat.reduceAdd, Nat.reduceMul, Nat.reduceLeDiff, Nat.reduceLT, Nat.reduceSub, IntWalk.iteOmega, IntWalk.toNatUp, reduceCtorEq, false_and, and_false, false_or, or_false, true_or, or_true, not_true_eq_false, not_false_eq_true, Bool.not_true, Bool.not_false, Bool.and_true, Bool.true_and, Bool.and_false, Bool.false_and, Bool.not_eq_true, beq_self_eq_true, Nat.add_zero, Int.reduceLE, Int.reduceLT, Int.reduceToNat, Int.reduceNeg, Bg6, f4]
    refine ⟨⟨hg.trans Bg6, f0, i + 1, hlt, rfl, ?_⟩, ?_⟩
    · rw [etk]
      exact ⟨_, o6, s2'.snoc ⟨rfl, rfl, rfl, q5⟩⟩
    · simp only [vi, updo_some, ↓reduceIte, f4]; omega
  · have hge : ¬ (i : Int) < l.length := by omega
    obtain rfl : i = l.length := by omega
    rw [List.take_length] at ho
    simp (config := {maxSteps := 2000000, implicitDefEqProofs := false}) only [go_sem, ↓reduceIte, Nat.reduceEqDiff, Nat.reduceAdd, Nat.reduceMul, Nat.reduceLeDiff, Nat.reduceLT, Nat.reduceSub, IntWalk.iteOmega, IntWalk.toNatUp, reduceCtorEq, false_and, and_false, false_or, or_false, true_or, or_true, not_true_eq_false, not_false_eq_true, Bool.not_true, Bool.not_false, Bool.and_true, Bool.true_and, Bool.and_false, Bool.false_and, Bool.not_eq_true, beq_self_eq_true, Nat.add_zero, Int.reduceLE, Int.reduceLT, Int.reduceToNat, Int.reduceNeg, f0, f4, hge]
    exact ⟨ho, hg⟩
theorem vaultAudits_ok : LawOkL Tryd.prog Tk 12 Tryd.f12.params.toList := by
  intro T args tk hfit
  rw [show Tryd.f12.params.toList = [47] from rfl] at hfit
  obtain ⟨v, _, rfl, ⟨k1, h1⟩, hfit⟩ := fitAll_cons hfit
  obtain rfl := fitAll_nil hfit
  obtain ⟨l, s, hll, hs⟩ := fit_ents (fitV_one ta47 h1)
  clear h1
  generalize T.heap = h at *
  refine CallsH.of_code' (args := [_]) Tryd.func12 rfl rfl rfl rfl ?_
  simp (config := {maxSteps := 2000000, implicitDefEqProofs := false}) only [go_sem, ↓reduceIte, Nat.reduceEqDiff, Nat.reduceAdd, Nat.reduceMul, Nat.reduceLeDiff, Nat.reduceLT, Nat.reduceSub, IntWalk.iteOmega, IntWalk.toNatUp, reduceCtorEq, false_and, and_false, false_or, or_false, true_or, or_true, not_true_eq_false, not_false_eq_true, Bool.not_true, Bool.not_false, Bool.and_true, Bool.true_and, Bool.and_false, Bool.false_and, Bool.not_eq_true, beq_self_eq_true, Nat.add_zero, Int.reduceLE, Int.reduceLT, Int.reduceToNat, Int.reduceNeg]
  refine (entriesLaw_ok T h v l s hll hs).use ?_
  rintro w0 h0 ⟨o0, b0⟩
  simp (config := {maxSteps := 2000000, implicitDefEqProofs := false}) only [go_sem, ↓reduceIte, Nat.reduceEqDiff, Nat.reduceAdd, Nat.reduceMul, Nat.reduceLeDiff, Nat.reduceLT, Nat.reduceSub, IntWalk.iteOmega, IntWalk.toNatUp, reduceCtorEq, false_and, and_false, false_or, or_false, true_or, or_true, not_true_eq_false, not_false_eq_true, Bool.not_true, Bool.not_false, Bool.and_true, Bool.true_and, Bool.and_false, Bool.false_and, Bool.not_eq_true, beq_self_eq_true, Nat.add_zero, Int.reduceLE, Int.reduceLT, Int.reduceToNat, Int.reduceNeg]
  refine (audit_ok T h0 w0 l o0.ts (tk.bels b0)).use ?_
  rintro _ h1 ⟨rfl, b1⟩
  have B1 := b0.trans (b1.mono b0.size)
  obtain ⟨A, hA⟩ : ∃ A : Int, A = if 200 < l.length then 0 else audR chn0 l 0 := ⟨_, rfl⟩
  obtain ⟨E, hE⟩ : ∃ E : Int, E = if 200 < l.length then 1 else 0 := ⟨_, rfl⟩
  rw [← hA, ← hE]
  simp (config := {maxSteps := 2000000, implicitDefEqProofs := false}) only [go_sem, ↓reduceIte, Nat.reduceEqDiff, Nat.reduceAdd, Nat.reduceMul, Nat.reduceLeDiff, Nat.reduceLT, Nat.reduceSub, IntWalk.iteOmega, IntWalk.toNatUp, reduceCtorEq, false_and, and_false, false_or, or_false, true_or, or_true, not_true_eq_false, not_false_eq_true, Bool.not_true, Bool.not_false, Bool.and_true, Bool.true_and, Bool.and_false, Bool.false_and, Bool.not_eq_true, beq_self_eq_true, Nat.add_zero, Int.reduceLE, Int.reduceLT, Int.reduceToNat, Int.reduceNeg]
  refine (audited_ok T h1 v l (s.bel B1)).use ?_
  rintro _ h2 ⟨rfl, b2⟩
  rw [← hA, ← hE]
  have B2 := B1.trans (b2.mono B1.size)
  simp (config := {maxSteps := 2000000, implicitDefEqProofs := false}) only [go_sem, ↓reduceIte, Nat.reduceEqDiff, Nat.reduceAdd, Nat.reduceMul, Nat.reduceLeDiff, Nat.reduceLT, Nat.reduceSub, IntWalk.iteOmega, IntWalk.toNatUp, reduceCtorEq, false_and, and_false, false_or, or_false, true_or, or_true, not_true_eq_false, not_false_eq_true, Bool.not_true, Bool.not_false, Bool.and_true, Bool.true_and, Bool.and_false, Bool.false_and, Bool.not_eq_true, beq_self_eq_true, Nat.add_zero, Int.reduceLE, Int.reduceLT, Int.reduceToNat, Int.reduceNeg]
  refine (sameEntries_eq T h2 w0 v l (o0.ts.bel (b1.trans (b2.mono b1.size))) (s.bel B2) (by omega)).pure ?_
  simp (config := {maxSteps := 2000000, implicitDefEqProofs := false}) only [go_sem, ↓reduceIte, Nat.reduceEqDiff, Nat.reduceAdd, Nat.reduceMul, Nat.reduceLeDiff, Nat.reduceLT, Nat.reduceSub, IntWalk.iteOmega, IntWalk.toNatUp, reduceCtorEq, false_and, and_false, false_or, or_false, true_or, or_true, not_true_eq_false, not_false_eq_true, Bool.not_true, Bool.not_false, Bool.and_true, Bool.true_and, Bool.and_false, Bool.false_and, Bool.not_eq_true, beq_self_eq_true, Nat.add_zero, Int.reduceLE, Int.reduceLT, Int.reduceToNat, Int.reduceNeg]
  exact B2
set_option maxRecDepth 100000 in
theorem vaultAudits_lifted (os : Os) (started : os.Started) (H : Type) (enc : TypeId × Value → H) :
    ReturnsInHanded {} Tryd.checked os 12 .any (fun w args => (Rows.vaultAuditsSpec.pre enc Tryd.prog Tryd.f12 [] false w args ∧ laidMetH Tryd.prog Rows.vaultAuditsRow.laid w) ∧ sizedMet enc Tryd.prog Tryd.f12 (OpenSpec.ofChange Rows.vaultAuditsSpec) false w args)
      (Rows.vaultAuditsSpec.post enc Tryd.prog Tryd.f12 false true false false) :=
  law_liftedL (C := Tryd.checked) (laid := Rows.vaultAuditsRow.laid) ownKnobT started (by kernel_rfl) Tryd.func12
    (ChangeSpec.witness_shaped (enc := enc) (C := Tryd.checked) (os := os) (X := fun w _ => laidMetH Tryd.prog Rows.vaultAuditsRow.laid w) false (World.doorLaid Tryd.prog 87 os) #[.slice none 0 0] 12 rfl (doorShaped os _) (by kernel_rfl) (by kernel_rfl) (by kernel_rfl) (doorSha os _))
    laidOutT (by kernel_rfl) (by kernel_rfl) (tb := 4) rfl Tryd.underlying4 rfl (fun ds hd => by
      have hl : ds.length = 1 := hd
      match ds, hl with
      | [d0], _ => rfl) (fun W h => shaTab h) vaultAudits_ok
theorem vaultAudits_said : Rows.VaultAuditsSaid :=
  OpenClaim.holds_of_wide 12 Tryd.f12 rfl rfl rfl rfl rfl rfl rfl ⟨rfl, rfl, rfl, rfl, rfl⟩ rfl rfl rfl rfl rfl (by kernel_rfl) Tryd.func12 (show joinedFacts Tryd.prog 12 Tryd.f12 Rows.vaultAuditsSpec Rows.vaultAuditsRow = true by unfold joinedFacts; rw [makeT, enterT, liftsT]; kernel_rfl)
    (of_decide_eq_true (by kernel_rfl)) (by unfold Func.isWrapper; rw [if_neg (of_decide_eq_false (by kernel_rfl))]; exact ⟨rfl, rfl⟩)
    (fun os started H enc _ => vaultAudits_lifted os started H enc)
theorem vaultAudits_plain (f : FuncId) (fn : Func) (hf : Tryd.pinned.checked.prog.funcNamed "conclave/conclavelaw.VaultAudits" = some f) (hfn : Tryd.pinned.checked.prog.funcs[f]? = some fn) :
    true = Tryd.pinned.checked.prog.looks [] ∧ ∀ (j : Nat) t, fn.params[j]? = some t → Tryd.pinned.checked.prog.wantsStandIn t = false := by
  obtain rfl : f = 12 := Option.some.inj ((show Tryd.prog.funcNamed "conclave/conclavelaw.VaultAudits" = some 12 by kernel_rfl).symm.trans hf) |>.symm
  obtain rfl : fn = Tryd.f12 := (Option.some.inj (Tryd.func12.symm.trans hfn)).symm
  refine ⟨by kernel_rfl, fun j t ht => ?_⟩
  have hm : t ∈ Tryd.f12.params.toList := by simpa using Array.mem_of_getElem? ht
  have hall : (Tryd.f12.params.toList.all fun u => !Tryd.prog.wantsStandIn u) = true := by kernel_rfl
  exact (show Tryd.prog.wantsStandIn t = false by simpa using List.all_eq_true.1 hall t hm)
theorem vaultAudits_card : Rows.VaultAuditsCardSaid :=
  Claim7.holds_tied_plain_at .later [] _ _ _ _ vaultAudits_said (fun _ h => by cases h) (by kernel_rfl) (fun _ h => by cases h) vaultAudits_row_tie rfl ⟨rfl, rfl⟩ (by kernel_rfl) rfl vaultAudits_plain (by kernel_rfl)
end Go.Proofs.YtnpacofabdgcdaaDoor
