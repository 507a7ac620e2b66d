/- PaxosAccepts holds: paxos.Accept answers what the document says, at every argument, and changes none of them; without any condition. -/
import Derived.Test.YtiakfdpmapmifaaAcr
namespace Go.Proofs.Ytiakfdpmapmifaa
open Go Go.V
set_option linter.unusedSimpArgs false
set_option linter.unusedVariables false
set_option maxRecDepth 100000
theorem insV_few {l : List Vt} (x : Vt) : (insV l x).length ≤ l.length + l.length + 1 := by
  unfold insV
  have a := List.length_filter_le (fun y : Vt => decide (y.slot < x.slot)) l
  have b := List.length_filter_le (fun y : Vt => decide (x.slot < y.slot)) l
  simp only [List.length_append, List.length_cons]
  omega
theorem paxosAccepts_ok : LawOk Try.prog 6 Try.f6.params.toList := by
  intro T args hfit
  rw [show Try.f6.params.toList = [41, 43] from rfl] at hfit
  obtain ⟨v, _, rfl, ⟨k1, h1⟩, hfit⟩ := fitAll_cons hfit
  obtain ⟨vb, _, rfl, ⟨k2, h2⟩, hfit⟩ := fitAll_cons hfit
  obtain rfl := fitAll_nil hfit
  obtain ⟨cs, rfl, hl, hf⟩ := fitV_struct (l := rep 2 [3] ++ [39]) Try.underlying41 (by kernel_rfl) (by kernel_rfl) h1
  obtain ⟨r, _, rfl, _, _, hf⟩ := fitL_int Try.underlying3 hf
  obtain ⟨n, _, rfl, _, _, hf⟩ := fitL_int Try.underlying3 hf
  obtain ⟨v, cs, k3, rfl, hk, hf⟩ := fitL_cell hf
  obtain rfl := fitL_nil hf
  obtain ⟨cb, rfl, hlb, hfb⟩ := fitV_struct (l := rep 8 [3]) Try.underlying43 (by kernel_rfl) (by kernel_rfl) h2
  obtain ⟨a0, _, rfl, _, _, hfb⟩ := fitL_int Try.underlying3 hfb
  obtain ⟨a1, _, rfl, _, _, hfb⟩ := fitL_int Try.underlying3 hfb
  obtain ⟨a2, _, rfl, _, _, hfb⟩ := fitL_int Try.underlying3 hfb
  obtain ⟨a3, _, rfl, _, _, hfb⟩ := fitL_int Try.underlying3 hfb
  obtain ⟨a4, _, rfl, _, _, hfb⟩ := fitL_int Try.underlying3 hfb
  obtain ⟨a5, _, rfl, _, _, hfb⟩ := fitL_int Try.underlying3 hfb
  obtain ⟨a6, _, rfl, _, _, hfb⟩ := fitL_int Try.underlying3 hfb
  obtain ⟨a7, _, rfl, _, _, hfb⟩ := fitL_int Try.underlying3 hfb
  obtain rfl := fitL_nil hfb
  obtain ⟨l, s, hll⟩ := fit_votes hk
  clear h1 h2 hk
  generalize T.heap = h at *
  refine CallsH.of_code' (args := [_, _]) Try.func6 rfl rfl rfl rfl ?_
  obtain ⟨pv, cv, rfl, _⟩ := votes_open s
  simp (config := {maxSteps := 2000000, implicitDefEqProofs := false}) only [go_sem, ↓reduceIte, Nat.reduceEqDiff, Nat.reduceAdd, Nat.reduceMul, Nat.reduceLeDiff, Nat.reduceLT, Nat.reduceSub, IntWalk.iteOmega, IntWalk.toNatUp, reduceCtorEq, false_and, and_false, false_or, or_false, true_or, or_true, not_true_eq_false, not_false_eq_true, Bool.not_true, Bool.not_false, Bool.and_true, Bool.true_and, Bool.and_false, Bool.false_and, Bool.not_eq_true, beq_self_eq_true, Nat.add_zero, Int.reduceLE, Int.reduceLT, Int.reduceToNat, Int.reduceNeg]
  refine (acceptors_ok T _ ⟨r, n⟩ _ l (s.bel ((Bel.refl h.size h).add _ |>.add _)) hll).use ?_
  rintro _ h1 ⟨⟨w, rfl, o1⟩, b1⟩
  obtain ⟨p1, c1, rfl, _⟩ := o1.open
  have x0 : h1[h.size]? = some (.cells [.int .i64 r, .int .i64 n, .slice pv l.length cv].toArray 41) := b1.get (by simp only [Array.size_push]; omega) (by simp only [Array.getElem?_push, Array.size_push, IntWalk.iteOmega, ↓reduceIte])
  have x1 : h1[h.size + 1]? = some (.cells [.int .i64 a0, .int .i64 a1, .int .i64 a2, .int .i64 a3, .int .i64 a4, .int .i64 a5, .int .i64 a6, .int .i64 a7].toArray 43) := b1.get (by simp only [Array.size_push]; omega) (by simp only [Array.getElem?_push, Array.size_push, IntWalk.iteOmega, ↓reduceIte])
  have hB1 : Bel h.size h h1 := ((Bel.refl h.size h).add _ |>.add _).trans (b1.mono (by simp; omega))
  have z1 := lt_of_get x1
  have rb := rd_last x1 (n := 8) rfl
  unfold accC
  simp (config := {maxSteps := 2000000, implicitDefEqProofs := false}) only [go_sem, ↓reduceIte, Nat.reduceEqDiff, Nat.reduceAdd, Nat.reduceMul, Nat.reduceLeDiff, Nat.reduceLT, Nat.reduceSub, IntWalk.iteOmega, IntWalk.toNatUp, reduceCtorEq, false_and, and_false, false_or, or_false, true_or, or_true, not_true_eq_false, not_false_eq_true, Bool.not_true, Bool.not_false, Bool.and_true, Bool.true_and, Bool.and_false, Bool.false_and, Bool.not_eq_true, beq_self_eq_true, Nat.add_zero, Int.reduceLE, Int.reduceLT, Int.reduceToNat, Int.reduceNeg, z1, rb]
  refine (accept_ok T _ ⟨r, n⟩ _ l ⟨a0, ⟨a1, a2⟩, a3, a4, a5, a6, a7⟩ ((o1.push _).ts) hll).use ?_
  rintro _ h2 ⟨⟨w1, rfl, o2⟩, b2⟩
  obtain ⟨E, hE⟩ : ∃ E, E = acErr ⟨r, n⟩ l ⟨a0, ⟨a1, a2⟩, a3, a4, a5, a6, a7⟩ := ⟨_, rfl⟩
  obtain ⟨P, hP⟩ : ∃ P : Bal, P = if E = 0 then ⟨a1, a2⟩ else ⟨0, 0⟩ := ⟨_, rfl⟩
  obtain ⟨L, hL⟩ : ∃ L : List Vt, L = if E = 0 then insV l ⟨a0, ⟨a1, a2⟩, a3, a4, a5, a6, a7⟩ else [] := ⟨_, rfl⟩
  have hLl : L.length ≤ 2199023255552 := by
    rw [hL]
    split
    next e =>
      rw [hE] at e
      have e0 : accErr ⟨r, n⟩ l = 0 := by
        unfold acErr at e
        by_cases q : accErr ⟨r, n⟩ l = 0
        · exact q
        · rw [if_pos q] at e; omega
      have h40 := srt_few (accErr_srt e0) (accErr_may e0)
      have := insV_few (l := l) ⟨a0, ⟨a1, a2⟩, a3, a4, a5, a6, a7⟩
      omega
    next => exact Nat.zero_le _
  rw [← hE] at o2 ⊢
  rw [← hL] at o2
  rw [← hP]
  obtain ⟨p2, c2, rfl, _⟩ := o2.open
  have hg12 : Bel h1.size h1 h2 := (Bel.push (Nat.le_refl _) _).trans (b2.mono (by simp))
  have y0 := hg12.get (by omega) x0
  have y1 := hg12.get z1 x1
  have rb' := rd_last y1 (n := 8) rfl
  have ra' := rd_last y0 (n := 3) rfl
  have yA : h2[h1.size]? = some (.cells [.int .i64 r, .int .i64 n, .slice p1 l.length c1].toArray 41) := b2.get (by simp) get_push_last
  have z2 := lt_of_get yA
  have hB2 := hB1.trans (hg12.mono hB1.size)
  unfold accC
  simp (config := {maxSteps := 2000000, implicitDefEqProofs := false}) only [go_sem, ↓reduceIte, Nat.reduceEqDiff, Nat.reduceAdd, Nat.reduceMul, Nat.reduceLeDiff, Nat.reduceLT, Nat.reduceSub, IntWalk.iteOmega, IntWalk.toNatUp, reduceCtorEq, false_and, and_false, false_or, or_false, true_or, or_true, not_true_eq_false, not_false_eq_true, Bool.not_true, Bool.not_false, Bool.and_true, Bool.true_and, Bool.and_false, Bool.false_and, Bool.not_eq_true, beq_self_eq_true, Nat.add_zero, Int.reduceLE, Int.reduceLT, Int.reduceToNat, Int.reduceNeg, rb', ra', z2]
  refine (acceptedBy_ok T _ ⟨r, n⟩ _ l ⟨a0, ⟨a1, a2⟩, a3, a4, a5, a6, a7⟩ (s.bel (hB2.addP hB2.size _)) hll).use ?_
  rintro _ h3 ⟨⟨w1, rfl, o4⟩, b3⟩
  rw [← hE] at o4 ⊢
  rw [← hL] at o4
  rw [← hP]
  obtain ⟨p4, c4, rfl, _⟩ := o4.open
  have hg23 : Bel h2.size h2 h3 := (Bel.push (Nat.le_refl _) _).trans (b3.mono (by simp))
  have yB : h3[h2.size]? = some (.cells [.int .i64 P.r, .int .i64 P.n, .slice p2 L.length c2].toArray 41) := b3.get (by simp) get_push_last
  have rB := rd_last yB (n := 3) rfl
  have yA' := hg23.get z2 yA
  have y0' := hg23.get (by omega) y0
  have rA' := rd_last yA' (n := 3) rfl
  have r0' := rd_last y0' (n := 3) rfl
  have z3 := lt_of_get yB
  have hB3 := hB2.trans (hg23.mono hB2.size)
  unfold accC
  simp (config := {maxSteps := 2000000, implicitDefEqProofs := false}) only [go_sem, ↓reduceIte, Nat.reduceEqDiff, Nat.reduceAdd, Nat.reduceMul, Nat.reduceLeDiff, Nat.reduceLT, Nat.reduceSub, IntWalk.iteOmega, IntWalk.toNatUp, reduceCtorEq, false_and, and_false, false_or, or_false, true_or, or_true, not_true_eq_false, not_false_eq_true, Bool.not_true, Bool.not_false, Bool.and_true, Bool.true_and, Bool.and_false, Bool.false_and, Bool.not_eq_true, beq_self_eq_true, Nat.add_zero, Int.reduceLE, Int.reduceLT, Int.reduceToNat, Int.reduceNeg, rB, z3]
  have hpB := Bel.push (Nat.le_refl h3.size) (Obj.cells [Value.int .i64 P.r, .int .i64 P.n, .slice p4 L.length c4].toArray 41)
  refine (sameAcceptor_eq T _ P _ _ L (((o2.ts.bel hg23)).bel hpB) (o4.ts.bel hpB) hLl).use ?_
  rintro _ h4 ⟨rfl, b4⟩
  have hg34 : Bel h3.size h3 h4 := hpB.trans (b4.mono (by simp))
  have rA'' : rd h4 ⟨h1.size, 0, none⟩ 3 = some [.int .i64 r, .int .i64 n, .slice p1 l.length c1] := by rw [rd_bel hg34 (by show h1.size < h3.size; omega)]; exact rA'
  have r0'' : rd h4 ⟨h.size, 0, none⟩ 3 = some [.int .i64 r, .int .i64 n, .slice pv l.length cv] := by rw [rd_bel hg34 (by show h.size < h3.size; omega)]; exact r0'
  simp (config := {maxSteps := 2000000, implicitDefEqProofs := false}) only [go_sem, ↓reduceIte, Nat.reduceEqDiff, Nat.reduceAdd, Nat.reduceMul, Nat.reduceLeDiff, Nat.reduceLT, Nat.reduceSub, IntWalk.iteOmega, IntWalk.toNatUp, reduceCtorEq, false_and, and_false, false_or, or_false, true_or, or_true, not_true_eq_false, not_false_eq_true, Bool.not_true, Bool.not_false, Bool.and_true, Bool.true_and, Bool.and_false, Bool.false_and, Bool.not_eq_true, beq_self_eq_true, Nat.add_zero, Int.reduceLE, Int.reduceLT, Int.reduceToNat, Int.reduceNeg, rA'', r0'']
  refine (sameAcceptor_eq T _ ⟨r, n⟩ _ _ l (((o1.ts.bel hg12).bel hg23).bel hg34) (s.bel (hB3.trans (hg34.mono hB3.size))) hll).use ?_
  rintro _ h5 ⟨rfl, b5⟩
  have hB4 := hB3.trans (hg34.mono hB3.size)
  simp (config := {maxSteps := 2000000, implicitDefEqProofs := false}) only [go_sem, ↓reduceIte, Nat.reduceEqDiff, Nat.reduceAdd, Nat.reduceMul, Nat.reduceLeDiff, Nat.reduceLT, Nat.reduceSub, IntWalk.iteOmega, IntWalk.toNatUp, reduceCtorEq, false_and, and_false, false_or, or_false, true_or, or_true, not_true_eq_false, not_false_eq_true, Bool.not_true, Bool.not_false, Bool.and_true, Bool.true_and, Bool.and_false, Bool.false_and, Bool.not_eq_true, beq_self_eq_true, Nat.add_zero, Int.reduceLE, Int.reduceLT, Int.reduceToNat, Int.reduceNeg]
  try exact hB4.trans (b5.mono hB4.size)
theorem paxosAccepts_lifted (os : Os) (started : os.Started) (H : Type) (enc : TypeId × Value → H) :
    ReturnsInHanded {} Try.checked os 6 .any (Rows.paxosAcceptsSpec.pre6 enc Try.prog Try.f6 Rows.paxosAcceptsRow.domain false) (Rows.paxosAcceptsSpec.post enc Try.prog Try.f6 false true false false) :=
  law_lifted (C := Try.checked) ownKnobT started (by kernel_rfl) Try.func6
    (ChangeSpec.witness6 (enc := enc) (C := Try.checked) false ⟨#[], #[.agg (rep 2 [Value.int .i64 0] ++ [Value.slice none 0 0]).toArray, .agg (rep 8 [Value.int .i64 0]).toArray], []⟩ 12 (by kernel_rfl) (by kernel_rfl) (by kernel_rfl) (by kernel_rfl))
    laidOutT (by kernel_rfl) (by kernel_rfl) (tb := 4) rfl Try.underlying4 rfl (fun ds hd => by
      have hl : ds.length = 2 := hd
      match ds, hl with
      | [d0, d1], _ => rfl) paxosAccepts_ok
theorem paxosAccepts_holds : Rows.PaxosAcceptsSaid :=
  OpenClaim.holds_of_wide 6 Try.f6 rfl rfl rfl rfl rfl rfl rfl ⟨rfl, rfl, rfl, rfl, rfl⟩ rfl rfl rfl rfl rfl (by kernel_rfl) Try.func6 (show joinedFacts Try.prog 6 Try.f6 Rows.paxosAcceptsSpec Rows.paxosAcceptsRow = true by unfold joinedFacts; rw [makeT, enterT, liftsT]; kernel_rfl)
    (of_decide_eq_true (by kernel_rfl)) (by unfold Func.isWrapper; rw [if_neg (of_decide_eq_false (by kernel_rfl))]; exact ⟨rfl, rfl⟩)
    (fun os started H enc _ => paxosAccepts_lifted os started H enc)
end Go.Proofs.Ytiakfdpmapmifaa
