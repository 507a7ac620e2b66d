/- A frame, written on a tape: what the program and the document compute; no condition but those in the statements. -/
import Derived.Test.YtnpacofabdgcdaaDoorShat
import Derived.Test.YtnpacofabdgcdaaDoorTape
import Derived.Test.YtnpacofabdgcdaaDoorW12
namespace Go.Proofs.YtnpacofabdgcdaaDoor
open Go Go.V
set_option linter.unusedSimpArgs false
set_option linter.unusedVariables false
set_option maxRecDepth 100000
/-- A frame: its length, its body, and four bytes of their digest. -/
def frmF (body : List Nat) : List Nat := body.length :: body
def frmS (body : List Nat) : List Nat := frmF body ++ (shaS (frmF body)).take 4
theorem frmF_length (body : List Nat) : (frmF body).length = body.length + 1 := rfl
theorem frmS_length (body : List Nat) : (frmS body).length = body.length + 5 := by
  rw [frmS, List.length_append, List.length_take, shaS_length, frmF_length]; omega
def tapeOk (l : List Nat) (n : Int) : Prop := l.length ≤ 100000 ∧ 0 ≤ n ∧ n ≤ l.length
instance (l : List Nat) (n : Int) : Decidable (tapeOk l n) := by unfold tapeOk; infer_instance
def wrtErr (l : List Nat) (n : Int) (k : Nat) : Int := if ¬ tapeOk l n then 5 else if 100000 < l.length + (k + 5) then 8 else 0
def WrtRes (B : Nat) (h' : Hp) (v' : Value) (l : List Nat) (n : Int) (E : Int) (add : List Nat) : Prop :=
  ∃ w, v' = .tuple [.agg [w, .int .i64 (if E = 0 then n else 0)].toArray, .int .i64 E].toArray ∧ OBs B 5 h' w (if E = 0 then l ++ add else [])
theorem But.setOne {h g : Hp} {b : Nat} {o : Obj} (a : But (some b) h g) : But (some b) h (g.setIfInBounds b o) :=
  ⟨by rw [Array.size_setIfInBounds]; exact a.size, fun k hk hne => by rw [Array.getElem?_setIfInBounds, if_neg (fun e => hne (by rw [e])), a.block k hk hne]⟩
theorem write_ok (T : World) (h : Hp) (v u : Value) (n : Int) (l body : List Nat) (s : Bs h v l) (hl : l.length ≤ 140737488355328) (sb : Bs h u body) (hb : body.length ≤ 255) (tk : Tk h) :
    CallsH Tryd.prog T 90 #[.agg [v, .int .i64 n].toArray, u] h fun v' h' => WrtRes h.size h' v' l n (wrtErr l n body.length) (frmS body) ∧ Bel h.size h h' := by
  obtain ⟨p, c, rfl, _⟩ := s.open
  obtain ⟨q, d, rfl, _⟩ := sb.open
  refine CallsH.of_code' (args := [_, _]) Tryd.func90 rfl rfl rfl rfl ?_
  unfold WrtRes
  simp (config := {maxSteps := 2000000, implicitDefEqProofs := false}) only [go_sem, ↓reduceIte, Nat.reduceEqDiff, Nat.reduceAdd, Nat.reduceMul, Nat.reduceLeDiff, Nat.reduceLT, Nat.reduceSub, IntWalk.iteOmega, IntWalk.toNatUp, reduceCtorEq, false_and, and_false, false_or, or_false, true_or, or_true, not_true_eq_false, not_false_eq_true, Bool.not_true, Bool.not_false, Bool.and_true, Bool.true_and, Bool.and_false, Bool.false_and, Bool.not_eq_true, beq_self_eq_true, Nat.add_zero, Int.reduceLE, Int.reduceLT, Int.reduceToNat, Int.reduceNeg]
  obtain ⟨h0, hh0⟩ : ∃ h0 : Hp, h0 = (h.push (.cells [.slice p l.length c, .int .i64 n].toArray 65)).push (.cells [.slice none 0 0, .int .i64 0].toArray 65) := ⟨_, rfl⟩
  have b0 : Bel h.size h h0 := by rw [hh0]; exact ((Bel.refl _ _).add _).add _
  have s0 : h0.size = h.size + 1 + 1 := by rw [hh0]; simp
  have x0 : h0[h.size + 1]? = some (.cells [.slice none 0 0, .int .i64 0].toArray 65) := by
    rw [hh0, Array.getElem?_push, if_pos (by simp)]
  rw [← hh0]
  clear hh0
  refine (open_ok T h0 _ n l (s.bel b0) hl).use ?_
  rintro _ h1 ⟨b1, o1⟩
  have s1 := b1.size
  by_cases ok : tapeOk l n
  case neg =>
    have ee : wrtErr l n body.length = 5 := by unfold wrtErr; rw [if_pos ok]
    rw [if_neg (show ¬ (l.length ≤ 100000 ∧ 0 ≤ n ∧ n ≤ l.length) from ok)] at o1
    subst o1
    rw [ee]
    have x1 := b1.get (by omega) x0
    have y2 := wr_get x1 0
    have hlt : h.size + 1 < h1.size := by omega
    have hne : ¬ h.size + 1 = h1.size := by omega
    simp (config := {maxSteps := 2000000, implicitDefEqProofs := false}) only [go_sem, ↓reduceIte, Nat.reduceEqDiff, Nat.reduceAdd, Nat.reduceMul, Nat.reduceLeDiff, Nat.reduceLT, Nat.reduceSub, IntWalk.iteOmega, IntWalk.toNatUp, reduceCtorEq, false_and, and_false, false_or, or_false, true_or, or_true, not_true_eq_false, not_false_eq_true, Bool.not_true, Bool.not_false, Bool.and_true, Bool.true_and, Bool.and_false, Bool.false_and, Bool.not_eq_true, beq_self_eq_true, Nat.add_zero, Int.reduceLE, Int.reduceLT, Int.reduceToNat, Int.reduceNeg, y2, hne, hlt]
    exact ⟨⟨_, rfl, OBs.nil _ _ _⟩, ((b0.trans (b1.mono (by omega))).addSet (by omega) _).addP (by simp; omega) _⟩
  have ee : wrtErr l n body.length = if 100000 < l.length + (body.length + 5) then 8 else 0 := by unfold wrtErr; rw [if_neg (fun hn => hn ok)]
  rw [if_pos (show (l.length ≤ 100000 ∧ 0 ≤ n ∧ n ≤ l.length) from ok)] at o1
  obtain ⟨w, rfl, o1⟩ := o1
  obtain ⟨pw, cw, rfl, _⟩ := o1.open
  have B1 := b0.trans (b1.mono (by omega))
  have x1 := b1.get (by omega) x0
  obtain ⟨hl1, hn0, hn1⟩ := ok
  obtain ⟨h2, hh2⟩ : ∃ h2 : Hp, h2 = h1.push (.cells [.slice pw l.length cw, .int .i64 n].toArray 65) := ⟨_, rfl⟩
  have b2 : Bel h1.size h1 h2 := by rw [hh2]; exact Bel.push (Nat.le_refl _) _
  have s2 : h2.size = h1.size + 1 := by rw [hh2]; simp
  have x6 : h2[h1.size]? = some (.cells [.slice pw l.length cw, .int .i64 n].toArray 65) := by rw [hh2]; exact get_push_last
  have eb : (body.length : Int) % 256 = (body.length : Int) := by omega
  have e2 : h1.push (.cells #[Value.slice pw l.length cw, .int .i64 n] 65) = h2 := hh2.symm
  simp (config := {maxSteps := 2000000, implicitDefEqProofs := false}) only [go_sem, ↓reduceIte, Nat.reduceEqDiff, Nat.reduceAdd, Nat.reduceMul, Nat.reduceLeDiff, Nat.reduceLT, Nat.reduceSub, IntWalk.iteOmega, IntWalk.toNatUp, reduceCtorEq, false_and, and_false, false_or, or_false, true_or, or_true, not_true_eq_false, not_false_eq_true, Bool.not_true, Bool.not_false, Bool.and_true, Bool.true_and, Bool.and_false, Bool.false_and, Bool.not_eq_true, beq_self_eq_true, Nat.add_zero, Int.reduceLE, Int.reduceLT, Int.reduceToNat, Int.reduceNeg, eb]
  rw [e2]
  clear e2 hh2
  rw [← s2]
  have B2 := B1.trans (b2.mono B1.size)
  have o2 := o1.bel b2 (Nat.le_refl _)
  have hb2 : ∀ x ∈ [body.length], x < 256 := by intro x hx; rw [List.mem_singleton.1 hx]; omega
  have of0 : OBs h2.size 5 (h2.push (.cells (([body.length] : List Nat).map bv).toArray 5)) (.slice (some ⟨h2.size, 0, none⟩) 1 1) [body.length] := OBs.made hb2 (Nat.le_refl _)
  have bp : Bel h2.size h2 (h2.push (.cells (([body.length] : List Nat).map bv).toArray 5)) := Bel.push (Nat.le_refl _) _
  refine append_bytes (E := 5) (B := h2.size) tsl29 Tryd.underlying29 tn5 tz5 tb5 of0 (by simp) (sb.bel (B2.trans (bp.mono (by omega)))) (by simp; omega) ?_
  intro wf h3 of3 b3 _
  have B3 : Bel h2.size h2 h3 := bp.trans b3
  have Bh3 := B2.trans (B3.mono (by omega))
  have of3' : OBs h2.size 5 h3 wf (frmF body) := of3
  clear of0 bp of3 b3
  have fl := frmF_length body
  have fsl := frmS_length body
  have efr : frmS body = frmF body ++ (shaS (frmF body)).take 4 := rfl
  have shl := shaS_length (frmF body)
  simp (config := {maxSteps := 2000000, implicitDefEqProofs := false}) only [go_sem, ↓reduceIte, Nat.reduceEqDiff, Nat.reduceAdd, Nat.reduceMul, Nat.reduceLeDiff, Nat.reduceLT, Nat.reduceSub, IntWalk.iteOmega, IntWalk.toNatUp, reduceCtorEq, false_and, and_false, false_or, or_false, true_or, or_true, not_true_eq_false, not_false_eq_true, Bool.not_true, Bool.not_false, Bool.and_true, Bool.true_and, Bool.and_false, Bool.false_and, Bool.not_eq_true, beq_self_eq_true, Nat.add_zero, Int.reduceLE, Int.reduceLT, Int.reduceToNat, Int.reduceNeg]
  refine (shaSum_ok T h3 wf (frmF body) of3'.bs (tk.bels Bh3)).use ?_
  rintro _ h4 ⟨⟨ws, rfl, os⟩, b4⟩
  have e0 : sumErr (frmF body).length = 0 := by unfold sumErr; rw [if_neg (by omega)]
  rw [e0, if_pos rfl] at os
  rw [e0]
  generalize shaS (frmF body) = SH at *
  obtain ⟨ps, cs, rfl, hcs⟩ := os.open
  have sS := os.bs
  obtain ⟨p', c', hv, hh⟩ := sS.opend
  simp only [Value.slice.injEq] at hv
  obtain ⟨rfl, _, rfl⟩ := hv
  obtain ⟨bb, ob, rfl, _⟩ := hh (by intro e; rw [e] at shl; cases shl)
  have s4 := Bs.fore sS (m := 4) (by omega) cs
  rw [shl] at hcs ⊢
  have h4c : (4 : Int) ≤ (cs : Int) := by omega
  have hcs0 : ¬ cs = 0 := by omega
  have of4 := of3'.bel b4 (Nat.le_refl _)
  have s3 := B3.size
  have s4s := b4.size
  have B4 : Bel h2.size h2 h4 := B3.trans (b4.mono s3)
  simp (config := {maxSteps := 2000000, implicitDefEqProofs := false}) only [go_sem, ↓reduceIte, Nat.reduceEqDiff, Nat.reduceAdd, Nat.reduceMul, Nat.reduceLeDiff, Nat.reduceLT, Nat.reduceSub, IntWalk.iteOmega, IntWalk.toNatUp, reduceCtorEq, false_and, and_false, false_or, or_false, true_or, or_true, not_true_eq_false, not_false_eq_true, Bool.not_true, Bool.not_false, Bool.and_true, Bool.true_and, Bool.and_false, Bool.false_and, Bool.not_eq_true, beq_self_eq_true, Nat.add_zero, Int.reduceLE, Int.reduceLT, Int.reduceToNat, Int.reduceNeg, h4c, hcs0, Nat.sub_zero, Nat.zero_mul]
  refine append_bytes (E := 5) (B := h2.size) tsl29 Tryd.underlying29 tn5 tz5 tb5 of4 (by omega) s4 (by rw [fl, List.length_take]; omega) ?_
  intro wg h5 og b5 _
  rw [← efr] at og
  have B5 : Bel h2.size h2 h5 := B4.trans b5
  have s5 := B5.size
  have Bh5 := B2.trans (B5.mono (by omega))
  obtain ⟨pg, cg, rfl, _⟩ := og.open
  rw [fsl]
  have x65 := B5.get (by omega) x6
  have r65 : V.hc h5 ⟨h1.size, 0, none⟩ = some (.slice pw l.length cw) := by rw [hc_last x65]; rfl
  have o5 := o2.bel B5 (Nat.le_refl _)
  have x15 : h5[h.size + 1]? = some (.cells [.slice none 0 0, .int .i64 0].toArray 65) := B5.get (by omega) (b2.get (by omega) x1)
  generalize frmS body = FR at *
  by_cases q : 100000 < l.length + (body.length + 5)
  · have q' : 100000 < (l.length : Int) + ((body.length + 5 : Nat) : Int) := by omega
    have y2 := wr_get x15 0
    have hlt : h.size + 1 < h5.size := by omega
    rw [if_pos q] at ee
    rw [ee]
    simp (config := {maxSteps := 2000000, implicitDefEqProofs := false}) only [go_sem, ↓reduceIte, Nat.reduceEqDiff, Nat.reduceAdd, Nat.reduceMul, Nat.reduceLeDiff, Nat.reduceLT, Nat.reduceSub, IntWalk.iteOmega, IntWalk.toNatUp, reduceCtorEq, false_and, and_false, false_or, or_false, true_or, or_true, not_true_eq_false, not_false_eq_true, Bool.not_true, Bool.not_false, Bool.and_true, Bool.true_and, Bool.and_false, Bool.false_and, Bool.not_eq_true, beq_self_eq_true, Nat.add_zero, Int.reduceLE, Int.reduceLT, Int.reduceToNat, Int.reduceNeg, r65, q', y2, hlt]
    exact ⟨⟨_, rfl, OBs.nil _ _ _⟩, Bh5.addSet (by omega) _⟩
  · have q' : ¬ 100000 < (l.length : Int) + ((body.length + 5 : Nat) : Int) := by omega
    rw [if_neg q] at ee
    rw [ee]
    simp (config := {maxSteps := 2000000, implicitDefEqProofs := false}) only [go_sem, ↓reduceIte, Nat.reduceEqDiff, Nat.reduceAdd, Nat.reduceMul, Nat.reduceLeDiff, Nat.reduceLT, Nat.reduceSub, IntWalk.iteOmega, IntWalk.toNatUp, reduceCtorEq, false_and, and_false, false_or, or_false, true_or, or_true, not_true_eq_false, not_false_eq_true, Bool.not_true, Bool.not_false, Bool.and_true, Bool.true_and, Bool.and_false, Bool.false_and, Bool.not_eq_true, beq_self_eq_true, Nat.add_zero, Int.reduceLE, Int.reduceLT, Int.reduceToNat, Int.reduceNeg, r65, q']
    have ogb : Bs h5 (.slice pg (body.length + 5) cg) FR := by rw [← fsl]; exact og.bs
    refine append_bytes2 (E := 5) (B := h0.size) tsl29 Tryd.underlying29 tn5 tz5 tb5 o5 (by omega) ogb (by omega) ?_
    intro wz h6 oz b6 bt6 bk6
    have s6 := b6.size
    have hw1 : ∀ b, blkOf (Value.slice pw l.length cw) = some b → b < h1.size := o1.own.lt
    have x66 : h6[h1.size]? = some (.cells [.slice pw l.length cw, .int .i64 n].toArray 65) := by
      rw [bt6.block _ (by omega) (fun e => by have := hw1 _ e; omega)]; exact x65
    have x16 : h6[h.size + 1]? = some (.cells [.slice none 0 0, .int .i64 0].toArray 65) := b6.get (by omega) x15
    obtain ⟨pz, cz, hwz, _⟩ := oz.open
    have zl : (l ++ FR).length = l.length + (body.length + 5) := by rw [List.length_append, fsl]
    rw [zl] at hwz
    subst hwz
    have w66 := wr1_get (v := .slice pz (l.length + (body.length + 5)) cz) x66 (o := 0)
    obtain ⟨h7, hh7⟩ : ∃ h7 : Hp, h7 = h6.setIfInBounds h1.size (.cells [.slice pz (l.length + (body.length + 5)) cz, .int .i64 n].toArray 65) := ⟨_, rfl⟩
    have w66' : wr1 h6 ⟨h1.size, 0, none⟩ (.slice pz (l.length + (body.length + 5)) cz) = some h7 := by rw [w66, if_pos ⟨by simp, rfl⟩, hh7]; rfl
    have b7 : But (some h1.size) h6 h7 := by rw [hh7]; exact But.setOne But.refl
    have x77 : h7[h1.size]? = some (.cells [.slice pz (l.length + (body.length + 5)) cz, .int .i64 n].toArray 65) := by rw [hh7, Array.getElem?_setIfInBounds, if_pos rfl, if_pos (by omega)]
    have x17 : h7[h.size + 1]? = some (.cells [.slice none 0 0, .int .i64 0].toArray 65) := by
      rw [b7.block _ (by omega) (fun e => by have := Option.some.inj e; omega)]; exact x16
    have oz7 := oz.but b7 (fun b hb e => by
      have e' := Option.some.inj e
      rcases bk6 b hb with g1 | g1
      · have := hw1 b g1; omega
      · omega)
    have r77 : rd h7 ⟨h1.size, 0, none⟩ 2 = some [.slice pz (l.length + (body.length + 5)) cz, .int .i64 n] := rd_last x77 rfl
    have y7 := wr_get x17 0
    have hlt7 : h.size + 1 < h7.size := lt_of_get x17
    have Bh6 : Bel h.size h h6 := Bh5.trans (b6.mono (by omega))
    have Bh7 : Bel h.size h h7 := Bh6.trans (b7.bel (by omega) (fun b e => by have := Option.some.inj e; omega))
    clear hh7 w66
    simp (config := {maxSteps := 2000000, implicitDefEqProofs := false}) only [go_sem, ↓reduceIte, Nat.reduceEqDiff, Nat.reduceAdd, Nat.reduceMul, Nat.reduceLeDiff, Nat.reduceLT, Nat.reduceSub, IntWalk.iteOmega, IntWalk.toNatUp, reduceCtorEq, false_and, and_false, false_or, or_false, true_or, or_true, not_true_eq_false, not_false_eq_true, Bool.not_true, Bool.not_false, Bool.and_true, Bool.true_and, Bool.and_false, Bool.false_and, Bool.not_eq_true, beq_self_eq_true, Nat.add_zero, Int.reduceLE, Int.reduceLT, Int.reduceToNat, Int.reduceNeg, w66', r77, y7, hlt7]
    refine ⟨⟨_, rfl, ?_⟩, Bh7.addSet (by omega) _⟩
    exact (oz7.setLow (by omega) _).mono (by omega)
theorem recordOn_ok (T : World) (h : Hp) (v u : Value) (n : Int) (l body : List Nat) (s : Bs h v l) (hl : l.length ≤ 100000) (sb : Bs h u body) (hb : body.length ≤ 255) (ok : tapeOk l n) :
    CallsH Tryd.prog T 95 #[.agg [v, .int .i64 n].toArray, u] h fun v' h' => WrtRes h.size h' v' l n (wrtErr l n body.length) (frmS body) ∧ Bel h.size h h' := by
  obtain ⟨p, c, rfl, _⟩ := s.open
  obtain ⟨q, d, rfl, _⟩ := sb.open
  refine CallsH.of_code' (args := [_, _]) Tryd.func95 rfl rfl rfl rfl ?_
  unfold WrtRes
  have ee : wrtErr l n body.length = if 100000 < l.length + (body.length + 5) then 8 else 0 := by unfold wrtErr; rw [if_neg (fun hn => hn ok)]
  have eb : (body.length : Int) % 256 = (body.length : Int) := by omega
  simp (config := {maxSteps := 2000000, implicitDefEqProofs := false}) only [go_sem, ↓reduceIte, Nat.reduceEqDiff, Nat.reduceAdd, Nat.reduceMul, Nat.reduceLeDiff, Nat.reduceLT, Nat.reduceSub, IntWalk.iteOmega, IntWalk.toNatUp, reduceCtorEq, false_and, and_false, false_or, or_false, true_or, or_true, not_true_eq_false, not_false_eq_true, Bool.not_true, Bool.not_false, Bool.and_true, Bool.true_and, Bool.and_false, Bool.false_and, Bool.not_eq_true, beq_self_eq_true, Nat.add_zero, Int.reduceLE, Int.reduceLT, Int.reduceToNat, Int.reduceNeg, eb]
  obtain ⟨h0, hh0⟩ : ∃ h0 : Hp, h0 = (h.push (.cells [.slice p l.length c, .int .i64 n].toArray 65)).push (.cells [.slice none 0 0, .int .i64 0].toArray 65) := ⟨_, rfl⟩
  have b0 : Bel h.size h h0 := by rw [hh0]; exact ((Bel.refl _ _).add _).add _
  have s0 : h0.size = h.size + 1 + 1 := by rw [hh0]; simp
  have x0 : h0[h.size + 1]? = some (.cells [.slice none 0 0, .int .i64 0].toArray 65) := by
    rw [hh0, Array.getElem?_push, if_pos (by simp)]
  have t0 : h0[h.size]? = some (.cells [.slice p l.length c, .int .i64 n].toArray 65) := by
    rw [hh0, Array.getElem?_push, if_neg (by simp), get_push_last]
  change CallsH _ _ _ _ (((h.push (.cells [.slice p l.length c, .int .i64 n].toArray 65)).push (.cells [.slice none 0 0, .int .i64 0].toArray 65)).push (.cells (([body.length] : List Nat).map bv).toArray 5)) _
  rw [← hh0, ← s0]
  clear hh0
  have hb2 : ∀ x ∈ [body.length], x < 256 := by intro x hx; rw [List.mem_singleton.1 hx]; omega
  have b1 : Bel h0.size h0 (h0.push (.cells (([body.length] : List Nat).map bv).toArray 5)) := Bel.push (Nat.le_refl _) _
  have sl1 : Bs (h0.push (.cells (([body.length] : List Nat).map bv).toArray 5)) (.slice (some ⟨h0.size, 0, none⟩) 1 1) [body.length] := Bs.made hb2 1
  have fl := frmF_length body
  have fsl := frmS_length body
  have efr : frmS body = frmF body ++ (shaS (frmF body)).take 4 := rfl
  have shl := shaS_length (frmF body)
  refine (joined_ok T _ _ _ [body.length] body sl1 (sb.bel (b0.trans (b1.mono (by omega)))) (by simp; omega)).use ?_
  rintro w2 h2 ⟨o2, b2⟩
  have B2 : Bel h0.size h0 h2 := b1.trans (b2.mono b1.size)
  have s2 := B2.size
  have o2' : OBs _ 5 h2 w2 (frmF body) := o2
  clear o2
  simp (config := {maxSteps := 2000000, implicitDefEqProofs := false}) only [go_sem, ↓reduceIte, Nat.reduceEqDiff, Nat.reduceAdd, Nat.reduceMul, Nat.reduceLeDiff, Nat.reduceLT, Nat.reduceSub, IntWalk.iteOmega, IntWalk.toNatUp, reduceCtorEq, false_and, and_false, false_or, or_false, true_or, or_true, not_true_eq_false, not_false_eq_true, Bool.not_true, Bool.not_false, Bool.and_true, Bool.true_and, Bool.and_false, Bool.false_and, Bool.not_eq_true, beq_self_eq_true, Nat.add_zero, Int.reduceLE, Int.reduceLT, Int.reduceToNat, Int.reduceNeg]
  refine (digested_ok T h2 w2 (frmF body) o2'.bs (by omega)).use ?_
  rintro w3 h3 ⟨o3, b3⟩
  generalize shaS (frmF body) = SH at *
  obtain ⟨ps, cs, rfl, hcs⟩ := o3.open
  have sS := o3.bs
  obtain ⟨p', c', hv, hh⟩ := sS.opend
  simp only [Value.slice.injEq] at hv
  obtain ⟨rfl, _, rfl⟩ := hv
  obtain ⟨bb, ob, rfl, _⟩ := hh (by intro e; rw [e] at shl; cases shl)
  have s4 := Bs.fore sS (m := 4) (by omega) cs
  rw [shl] at hcs ⊢
  have h4c : (4 : Int) ≤ (cs : Int) := by omega
  have hcs0 : ¬ cs = 0 := by omega
  have o23 := o2'.bs.bel b3
  have s3 := b3.size
  have B3 : Bel h0.size h0 h3 := B2.trans (b3.mono s2)
  simp (config := {maxSteps := 2000000, implicitDefEqProofs := false}) only [go_sem, ↓reduceIte, Nat.reduceEqDiff, Nat.reduceAdd, Nat.reduceMul, Nat.reduceLeDiff, Nat.reduceLT, Nat.reduceSub, IntWalk.iteOmega, IntWalk.toNatUp, reduceCtorEq, false_and, and_false, false_or, or_false, true_or, or_true, not_true_eq_false, not_false_eq_true, Bool.not_true, Bool.not_false, Bool.and_true, Bool.true_and, Bool.and_false, Bool.false_and, Bool.not_eq_true, beq_self_eq_true, Nat.add_zero, Int.reduceLE, Int.reduceLT, Int.reduceToNat, Int.reduceNeg, h4c, hcs0, Nat.sub_zero, Nat.zero_mul]
  refine (joined_ok T h3 w2 _ (frmF body) (SH.take 4) o23 s4 (by rw [fl, List.length_take]; omega)).use ?_
  rintro w5 h5 ⟨o5, b5⟩
  rw [← efr] at o5
  have B5 : Bel h0.size h0 h5 := B3.trans (b5.mono (by omega))
  have s5 := B5.size
  have Bh5 := b0.trans (B5.mono (by omega))
  obtain ⟨pg, cg, rfl, _⟩ := o5.open
  rw [fsl]
  have x5 := B5.get (by omega) x0
  have t5 := B5.get (by omega) t0
  have r5 : V.hc h5 ⟨h.size, 0, none⟩ = some (.slice p l.length c) := by rw [hc_last t5]; rfl
  have r6 : V.hc h5 ⟨h.size, 1, none⟩ = some (.int .i64 n) := by rw [hc_last t5]; rfl
  have og := o5.bs
  rw [fsl] at og
  have oge := o5.bs
  generalize frmS body = FR at *
  have hlt : h.size + 1 < h5.size := by omega
  have hlt0 : h.size < h5.size := by omega
  by_cases q : 100000 < l.length + (body.length + 5)
  · have q' : 100000 < (l.length : Int) + ((body.length + 5 : Nat) : Int) := by omega
    have y2 := wr_get x5 0
    rw [if_pos q] at ee
    rw [ee]
    simp (config := {maxSteps := 2000000, implicitDefEqProofs := false}) only [go_sem, ↓reduceIte, Nat.reduceEqDiff, Nat.reduceAdd, Nat.reduceMul, Nat.reduceLeDiff, Nat.reduceLT, Nat.reduceSub, IntWalk.iteOmega, IntWalk.toNatUp, reduceCtorEq, false_and, and_false, false_or, or_false, true_or, or_true, not_true_eq_false, not_false_eq_true, Bool.not_true, Bool.not_false, Bool.and_true, Bool.true_and, Bool.and_false, Bool.false_and, Bool.not_eq_true, beq_self_eq_true, Nat.add_zero, Int.reduceLE, Int.reduceLT, Int.reduceToNat, Int.reduceNeg, r5, q', y2, hlt]
    exact ⟨⟨_, rfl, OBs.nil _ _ _⟩, Bh5.addSet (by omega) _⟩
  · have q' : ¬ 100000 < (l.length : Int) + ((body.length + 5 : Nat) : Int) := by omega
    rw [if_neg q] at ee
    rw [ee]
    simp (config := {maxSteps := 2000000, implicitDefEqProofs := false}) only [go_sem, ↓reduceIte, Nat.reduceEqDiff, Nat.reduceAdd, Nat.reduceMul, Nat.reduceLeDiff, Nat.reduceLT, Nat.reduceSub, IntWalk.iteOmega, IntWalk.toNatUp, reduceCtorEq, false_and, and_false, false_or, or_false, true_or, or_true, not_true_eq_false, not_false_eq_true, Bool.not_true, Bool.not_false, Bool.and_true, Bool.true_and, Bool.and_false, Bool.false_and, Bool.not_eq_true, beq_self_eq_true, Nat.add_zero, Int.reduceLE, Int.reduceLT, Int.reduceToNat, Int.reduceNeg, r5, q']
    refine VS.w (h5.size) [7, 8] (.q 0 (.q 1 (.q 2 (.q 4 (.q 5 (.s 3 (.q 6 (.w 7 (.w 8 .nil))))))))) mixed (by kernel_rfl) ?_
    simp (config := {maxSteps := 2000000, implicitDefEqProofs := false}) only [go_sem, ↓reduceIte, Nat.reduceEqDiff, Nat.reduceAdd, Nat.reduceMul, Nat.reduceLeDiff, Nat.reduceLT, Nat.reduceSub, IntWalk.iteOmega, IntWalk.toNatUp, reduceCtorEq, false_and, and_false, false_or, or_false, true_or, or_true, not_true_eq_false, not_false_eq_true, Bool.not_true, Bool.not_false, Bool.and_true, Bool.true_and, Bool.and_false, Bool.false_and, Bool.not_eq_true, beq_self_eq_true, Nat.add_zero, Int.reduceLE, Int.reduceLT, Int.reduceToNat, Int.reduceNeg, r5, r6, hlt0]
    have oge' : Bs h5 (.slice pg (body.length + 5) cg) FR := by rw [fsl] at oge; exact oge
    refine (joined_ok T h5 _ _ l FR (s.bel Bh5) oge' (by omega)).use ?_
    rintro w6 h6 ⟨o6, b6⟩
    obtain ⟨pz, cz, rfl, _⟩ := o6.open
    have x6 := b6.get (by omega) x5
    have y6 := wr_get x6 0
    have hlt6 : h.size + 1 < h6.size := lt_of_get x6
    have Bh6 : Bel h.size h h6 := Bh5.trans (b6.mono (by omega))
    simp (config := {maxSteps := 2000000, implicitDefEqProofs := false}) only [go_sem, ↓reduceIte, Nat.reduceEqDiff, Nat.reduceAdd, Nat.reduceMul, Nat.reduceLeDiff, Nat.reduceLT, Nat.reduceSub, IntWalk.iteOmega, IntWalk.toNatUp, reduceCtorEq, false_and, and_false, false_or, or_false, true_or, or_true, not_true_eq_false, not_false_eq_true, Bool.not_true, Bool.not_false, Bool.and_true, Bool.true_and, Bool.and_false, Bool.false_and, Bool.not_eq_true, beq_self_eq_true, Nat.add_zero, Int.reduceLE, Int.reduceLT, Int.reduceToNat, Int.reduceNeg, b6, y6, hlt6]
    refine ⟨⟨_, rfl, ?_⟩, Bh6.addSet (by omega) _⟩
    exact (o6.setLow (by omega) _).mono (by omega)
end Go.Proofs.YtnpacofabdgcdaaDoor
