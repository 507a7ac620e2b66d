/- ChaBlocks holds: cha.Block answers what the document says, at every argument; without any condition. -/
import Derived.Test.YtnpacofabdgcdaaDoorCha
namespace Go.Proofs.YtnpacofabdgcdaaDoor
open Go Go.V
set_option linter.unusedSimpArgs false
set_option linter.unusedVariables false
set_option maxRecDepth 100000
theorem outB_snoc (x s : List Nat) (i : Nat) : (List.range (4 * (i + 1))).map (outF x s) = (List.range (4 * i)).map (outF x s) ++ [outF x s (4 * i), outF x s (4 * i + 1), outF x s (4 * i + 2), outF x s (4 * i + 3)] := by
  rw [show 4 * (i + 1) = 4 * i + 1 + 1 + 1 + 1 by omega]
  simp only [List.range_succ, List.map_append, List.map_cons, List.map_nil, List.append_assoc, List.cons_append, List.nil_append]
theorem diags_eq (s : List Nat) : diags (cols s 4) 4 = qround (qround (qround (qround (qround (qround (qround (qround s 0 4 8 12) 1 5 9 13) 2 6 10 14) 3 7 11 15) 0 5 10 15) 1 6 11 12) 2 7 8 13) 3 4 9 14 := rfl
theorem streamBlock_ok (T : World) (h : Hp) (v u : Value) (key nonce : List Nat) (ctr : Nat) (sk : Bs h v key) (sn : Bs h u nonce) (hk : key.length = 32) (hn : nonce.length = 12) (hcl : ctr < 4294967296) :
    CallsH Tryd.prog T 202 #[v, .int .i64 ctr, u] h fun v' h' => OBs h.size 5 h' v' (blockS key ctr nonce) ∧ Bel h.size h h' := by
  obtain ⟨p, c, rfl, _⟩ := sk.open
  obtain ⟨q, d, rfl, _⟩ := sn.open
  rw [hk] at sk ⊢
  rw [hn] at sn ⊢
  refine CallsH.of_code' (args := [_, _, _]) Tryd.func202 rfl rfl rfl rfl ?_
  obtain ⟨S, hS⟩ : ∃ S, S = initS key ctr nonce := ⟨_, rfl⟩
  have hS16 : S.length = 16 := by rw [hS]; exact initS_length _ _ _
  have wS : W32 S := by rw [hS]; exact initS_w32 sk.byte sn.byte hcl
  simp (config := {contextual := true, maxSteps := 2000000, implicitDefEqProofs := false}) only [go_sem, ↓reduceIte, Nat.reduceEqDiff, Nat.reduceAdd, Nat.reduceMul, Nat.reduceLeDiff, Nat.reduceLT, Nat.reduceSub, IntWalk.iteOmega, IntWalk.toNatUp, reduceCtorEq, Int.reduceLE, Int.reduceLT, Int.reduceToNat, Int.reduceNeg]
  refine VS.loop' (fun F g => Bel h.size h g ∧ F 0 = .slice p 32 c ∧ F 1 = .int .i64 ctr ∧ F 2 = .slice q 12 d ∧ ∃ i : Nat, i ≤ 8 ∧ F 8 = .int .i64 i ∧ Ots h.size 3 (fun x => [nv x]) 1 g (F 7) (S.take (4 + i)))
    (fun F _ => 8 - (vi (F 8)).toNat) rfl ⟨Bel.push (Nat.le_refl _) _, rfl, rfl, rfl, 0, by omega, rfl, ?_⟩ ?_
  · rw [hS]; exact Ots.made (enc := fun x => [nv x]) (fun _ => rfl) [1634760805, 857760878, 2036477234, 1797285236] (Nat.le_refl _)
  rintro F g ⟨hg, f0, f1, f2, i, hi, f8, ho⟩
  by_cases hlt : i < 8
  · have hlt' : (i : Int) < 8 := by omega
    have t4 : (4 * (i : Int)) = ((4 * i : Nat) : Int) := by omega
    simp (config := {contextual := true, maxSteps := 2000000, implicitDefEqProofs := false}) only [go_sem, ↓reduceIte, Nat.reduceEqDiff, Nat.reduceAdd, Nat.reduceMul, Nat.reduceLeDiff, Nat.reduceLT, Nat.reduceSub, IntWalk.iteOmega, IntWalk.toNatUp, reduceCtorEq, Int.reduceLE, Int.reduceLT, Int.reduceToNat, Int.reduceNeg, f0, f8, hlt', t4]
    refine (fourLow_ok T _ _ key (sk.bel hg) (4 * i) (by omega) (by omega)).pure ?_
    rw [← initS_key key nonce ctr i hlt, ← hS]
    simp (config := {contextual := true, maxSteps := 2000000, implicitDefEqProofs := false}) only [go_sem, ↓reduceIte, Nat.reduceEqDiff, Nat.reduceAdd, Nat.reduceMul, Nat.reduceLeDiff, Nat.reduceLT, Nat.reduceSub, IntWalk.iteOmega, IntWalk.toNatUp, reduceCtorEq, Int.reduceLE, Int.reduceLT, Int.reduceToNat, Int.reduceNeg, f0, f8]
    refine append_ts (E := 3) (B := h.size) (n := 1) (bytes := 8) tsl155 Tryd.underlying155 tn3 tz3 rfl tb3 (fun _ => rfl) (ho.push _) (by have := hg.size; simp; omega) (Ts.one (enc := fun x => [nv x]) (S.getD (4 + i) 0) (fun _ => rfl) 1) ?_ (by omega) ?_
    · simp only [List.length_take, List.length_singleton]; omega
    intro v' h' ho' hb' _
    simp (config := {contextual := true, maxSteps := 2000000, implicitDefEqProofs := false}) only [go_sem, ↓reduceIte, Nat.reduceEqDiff, Nat.reduceAdd, Nat.reduceMul, Nat.reduceLeDiff, Nat.reduceLT, Nat.reduceSub, IntWalk.iteOmega, IntWalk.toNatUp, reduceCtorEq, Int.reduceLE, Int.reduceLT, Int.reduceToNat, Int.reduceNeg, f0, f1, f2, f8]
    refine ⟨⟨(hg.addP hg.size _).trans hb', f0, f1, f2, i + 1, hlt, rfl, ?_⟩, ?_⟩
    · rw [show 4 + (i + 1) = 4 + i + 1 by omega, take_snoc _ (4 + i) (by omega)]
      have e : S.getD (4 + i) 0 = S[4 + i]'(by omega) := by rw [List.getD_eq_getElem?_getD, List.getElem?_eq_getElem (by omega)]; rfl
      rw [← e]; exact ho'
    · simp only [vi, updo_some, ↓reduceIte, f8]; omega
  · have hge : ¬ (i : Int) < 8 := by omega
    obtain rfl : i = 8 := by omega
    have hgs := hg.size
    simp (config := {contextual := true, maxSteps := 2000000, implicitDefEqProofs := false}) only [go_sem, ↓reduceIte, Nat.reduceEqDiff, Nat.reduceAdd, Nat.reduceMul, Nat.reduceLeDiff, Nat.reduceLT, Nat.reduceSub, IntWalk.iteOmega, IntWalk.toNatUp, reduceCtorEq, Int.reduceLE, Int.reduceLT, Int.reduceToNat, Int.reduceNeg, f0, f1, f2, f8, hge]
    refine (fourLow_ok T _ _ nonce (sn.bel hg) 0 (by omega) (by omega)).pure ?_
    simp (config := {contextual := true, maxSteps := 2000000, implicitDefEqProofs := false}) only [go_sem, ↓reduceIte, Nat.reduceEqDiff, Nat.reduceAdd, Nat.reduceMul, Nat.reduceLeDiff, Nat.reduceLT, Nat.reduceSub, IntWalk.iteOmega, IntWalk.toNatUp, reduceCtorEq, Int.reduceLE, Int.reduceLT, Int.reduceToNat, Int.reduceNeg, f1, f2]
    refine (fourLow_ok T _ _ nonce (sn.bel hg) 4 (by omega) (by omega)).pure ?_
    simp (config := {contextual := true, maxSteps := 2000000, implicitDefEqProofs := false}) only [go_sem, ↓reduceIte, Nat.reduceEqDiff, Nat.reduceAdd, Nat.reduceMul, Nat.reduceLeDiff, Nat.reduceLT, Nat.reduceSub, IntWalk.iteOmega, IntWalk.toNatUp, reduceCtorEq, Int.reduceLE, Int.reduceLT, Int.reduceToNat, Int.reduceNeg, f1, f2]
    refine (fourLow_ok T _ _ nonce (sn.bel hg) 8 (by omega) (by omega)).pure ?_
    simp (config := {contextual := true, maxSteps := 2000000, implicitDefEqProofs := false}) only [go_sem, ↓reduceIte, Nat.reduceEqDiff, Nat.reduceAdd, Nat.reduceMul, Nat.reduceLeDiff, Nat.reduceLT, Nat.reduceSub, IntWalk.iteOmega, IntWalk.toNatUp, reduceCtorEq, Int.reduceLE, Int.reduceLT, Int.reduceToNat, Int.reduceNeg, f1, f2]
    refine append_ts (E := 3) (B := h.size) (n := 1) (bytes := 8) tsl155 Tryd.underlying155 tn3 tz3 rfl tb3 (fun _ => rfl) (ho.push _) (by simp; omega) (Ts.made (enc := fun x => [nv x]) (fun _ => rfl) [ctr, le4 nonce 0, le4 nonce 4, le4 nonce 8] 4) ?_ (by omega) ?_
    · simp only [List.length_take]; simp; omega
    intro v' h' ho' hb' _
    have eS : S.take (4 + 8) ++ [ctr, le4 nonce 0, le4 nonce 4, le4 nonce 8] = S := by rw [hS]; rfl
    rw [eS] at ho'
    have hB := (hg.addP (o := .cells (encs (fun x => [nv x]) [ctr, le4 nonce 0, le4 nonce 4, le4 nonce 8]).toArray 3) hgs).trans hb'
    obtain ⟨ps, cs, rfl, hcs⟩ := nv_open ho'.ts
    have hts := ho'.ts
    have hne : S ≠ [] := by intro e; rw [e] at hS16; simp at hS16
    obtain ⟨bs, os, rfl, hbs, hcs⟩ := hcs hne
    simp (config := {contextual := true, maxSteps := 2000000, implicitDefEqProofs := false}) only [go_sem, ↓reduceIte, Nat.reduceEqDiff, Nat.reduceAdd, Nat.reduceMul, Nat.reduceLeDiff, Nat.reduceLT, Nat.reduceSub, IntWalk.iteOmega, IntWalk.toNatUp, reduceCtorEq, Int.reduceLE, Int.reduceLT, Int.reduceToNat, Int.reduceNeg]
    refine VS.loop' (fun F g => Bel h'.size h' g ∧ F 7 = .slice (some ⟨bs, os, none⟩) S.length cs ∧ ∃ r : Nat, r ≤ 10 ∧ F 10 = .int .i64 r ∧ Ts (fun x => [nv x]) 1 g (F 9) (rnds S r))
      (fun F _ => 10 - (vi (F 10)).toNat) rfl ⟨Bel.refl _ _, rfl, 0, by omega, rfl, hts⟩ ?_
    clear f0 f1 f2 f8 ho hlt hge hi hg hgs hb'
    rintro F g ⟨b1, f7, r, hr, f10, hx⟩
    by_cases hlt : r < 10
    · have hlt' : (r : Int) < 10 := by omega
      obtain ⟨w0, l0⟩ := rnds_ok wS r
      rw [hS16] at l0
      have hr1 : rnds S (r + 1) = _ := diags_eq (rnds S r)
      generalize rnds S r = s0 at *
      simp (config := {contextual := true, maxSteps := 2000000, implicitDefEqProofs := false}) only [go_sem, ↓reduceIte, Nat.reduceEqDiff, Nat.reduceAdd, Nat.reduceMul, Nat.reduceLeDiff, Nat.reduceLT, Nat.reduceSub, IntWalk.iteOmega, IntWalk.toNatUp, reduceCtorEq, Int.reduceLE, Int.reduceLT, Int.reduceToNat, Int.reduceNeg, f7, f10, hlt']
      refine (quartered_ok T _ _ s0 0 4 8 12 l0 w0 (by omega) (by omega) (by omega) (by omega) hx).use ?_
      rintro x1 g1 ⟨o1, c1⟩
      have hx := o1.ts
      have b2 := b1.trans (c1.mono b1.size)
      have w1 := qround_w32 w0 0 4 8 12
      have l1 : (qround s0 0 4 8 12).length = 16 := by rw [qround_length, l0]
      generalize qround s0 0 4 8 12 = s1 at *
      simp (config := {contextual := true, maxSteps := 2000000, implicitDefEqProofs := false}) only [go_sem, ↓reduceIte, Nat.reduceEqDiff, Nat.reduceAdd, Nat.reduceMul, Nat.reduceLeDiff, Nat.reduceLT, Nat.reduceSub, IntWalk.iteOmega, IntWalk.toNatUp, reduceCtorEq, Int.reduceLE, Int.reduceLT, Int.reduceToNat, Int.reduceNeg, f7, f10]
      refine (quartered_ok T _ _ s1 1 5 9 13 l1 w1 (by omega) (by omega) (by omega) (by omega) hx).use ?_
      rintro x2 g2 ⟨o2, c2⟩
      have hx := o2.ts
      have b3 := b2.trans (c2.mono b2.size)
      have w2 := qround_w32 w1 1 5 9 13
      have l2 : (qround s1 1 5 9 13).length = 16 := by rw [qround_length, l1]
      generalize qround s1 1 5 9 13 = s2 at *
      simp (config := {contextual := true, maxSteps := 2000000, implicitDefEqProofs := false}) only [go_sem, ↓reduceIte, Nat.reduceEqDiff, Nat.reduceAdd, Nat.reduceMul, Nat.reduceLeDiff, Nat.reduceLT, Nat.reduceSub, IntWalk.iteOmega, IntWalk.toNatUp, reduceCtorEq, Int.reduceLE, Int.reduceLT, Int.reduceToNat, Int.reduceNeg, f7, f10]
      refine (quartered_ok T _ _ s2 2 6 10 14 l2 w2 (by omega) (by omega) (by omega) (by omega) hx).use ?_
      rintro x3 g3 ⟨o3, c3⟩
      have hx := o3.ts
      have b4 := b3.trans (c3.mono b3.size)
      have w3 := qround_w32 w2 2 6 10 14
      have l3 : (qround s2 2 6 10 14).length = 16 := by rw [qround_length, l2]
      generalize qround s2 2 6 10 14 = s3 at *
      simp (config := {contextual := true, maxSteps := 2000000, implicitDefEqProofs := false}) only [go_sem, ↓reduceIte, Nat.reduceEqDiff, Nat.reduceAdd, Nat.reduceMul, Nat.reduceLeDiff, Nat.reduceLT, Nat.reduceSub, IntWalk.iteOmega, IntWalk.toNatUp, reduceCtorEq, Int.reduceLE, Int.reduceLT, Int.reduceToNat, Int.reduceNeg, f7, f10]
      refine (quartered_ok T _ _ s3 3 7 11 15 l3 w3 (by omega) (by omega) (by omega) (by omega) hx).use ?_
      rintro x4 g4 ⟨o4, c4⟩
      have hx := o4.ts
      have b5 := b4.trans (c4.mono b4.size)
      have w4 := qround_w32 w3 3 7 11 15
      have l4 : (qround s3 3 7 11 15).length = 16 := by rw [qround_length, l3]
      generalize qround s3 3 7 11 15 = s4 at *
      simp (config := {contextual := true, maxSteps := 2000000, implicitDefEqProofs := false}) only [go_sem, ↓reduceIte, Nat.reduceEqDiff, Nat.reduceAdd, Nat.reduceMul, Nat.reduceLeDiff, Nat.reduceLT, Nat.reduceSub, IntWalk.iteOmega, IntWalk.toNatUp, reduceCtorEq, Int.reduceLE, Int.reduceLT, Int.reduceToNat, Int.reduceNeg, f7, f10]
      refine (quartered_ok T _ _ s4 0 5 10 15 l4 w4 (by omega) (by omega) (by omega) (by omega) hx).use ?_
      rintro x5 g5 ⟨o5, c5⟩
      have hx := o5.ts
      have b6 := b5.trans (c5.mono b5.size)
      have w5 := qround_w32 w4 0 5 10 15
      have l5 : (qround s4 0 5 10 15).length = 16 := by rw [qround_length, l4]
      generalize qround s4 0 5 10 15 = s5 at *
      simp (config := {contextual := true, maxSteps := 2000000, implicitDefEqProofs := false}) only [go_sem, ↓reduceIte, Nat.reduceEqDiff, Nat.reduceAdd, Nat.reduceMul, Nat.reduceLeDiff, Nat.reduceLT, Nat.reduceSub, IntWalk.iteOmega, IntWalk.toNatUp, reduceCtorEq, Int.reduceLE, Int.reduceLT, Int.reduceToNat, Int.reduceNeg, f7, f10]
      refine (quartered_ok T _ _ s5 1 6 11 12 l5 w5 (by omega) (by omega) (by omega) (by omega) hx).use ?_
      rintro x6 g6 ⟨o6, c6⟩
      have hx := o6.ts
      have b7 := b6.trans (c6.mono b6.size)
      have w6 := qround_w32 w5 1 6 11 12
      have l6 : (qround s5 1 6 11 12).length = 16 := by rw [qround_length, l5]
      generalize qround s5 1 6 11 12 = s6 at *
      simp (config := {contextual := true, maxSteps := 2000000, implicitDefEqProofs := false}) only [go_sem, ↓reduceIte, Nat.reduceEqDiff, Nat.reduceAdd, Nat.reduceMul, Nat.reduceLeDiff, Nat.reduceLT, Nat.reduceSub, IntWalk.iteOmega, IntWalk.toNatUp, reduceCtorEq, Int.reduceLE, Int.reduceLT, Int.reduceToNat, Int.reduceNeg, f7, f10]
      refine (quartered_ok T _ _ s6 2 7 8 13 l6 w6 (by omega) (by omega) (by omega) (by omega) hx).use ?_
      rintro x7 g7 ⟨o7, c7⟩
      have hx := o7.ts
      have b8 := b7.trans (c7.mono b7.size)
      have w7 := qround_w32 w6 2 7 8 13
      have l7 : (qround s6 2 7 8 13).length = 16 := by rw [qround_length, l6]
      generalize qround s6 2 7 8 13 = s7 at *
      simp (config := {contextual := true, maxSteps := 2000000, implicitDefEqProofs := false}) only [go_sem, ↓reduceIte, Nat.reduceEqDiff, Nat.reduceAdd, Nat.reduceMul, Nat.reduceLeDiff, Nat.reduceLT, Nat.reduceSub, IntWalk.iteOmega, IntWalk.toNatUp, reduceCtorEq, Int.reduceLE, Int.reduceLT, Int.reduceToNat, Int.reduceNeg, f7, f10]
      refine (quartered_ok T _ _ s7 3 4 9 14 l7 w7 (by omega) (by omega) (by omega) (by omega) hx).use ?_
      rintro x8 g8 ⟨o8, c8⟩
      have hx := o8.ts
      have b9 := b8.trans (c8.mono b8.size)
      have w8 := qround_w32 w7 3 4 9 14
      have l8 : (qround s7 3 4 9 14).length = 16 := by rw [qround_length, l7]
      generalize qround s7 3 4 9 14 = s8 at *
      simp (config := {contextual := true, maxSteps := 2000000, implicitDefEqProofs := false}) only [go_sem, ↓reduceIte, Nat.reduceEqDiff, Nat.reduceAdd, Nat.reduceMul, Nat.reduceLeDiff, Nat.reduceLT, Nat.reduceSub, IntWalk.iteOmega, IntWalk.toNatUp, reduceCtorEq, Int.reduceLE, Int.reduceLT, Int.reduceToNat, Int.reduceNeg, f7, f10]
      refine ⟨⟨b9, f7, r + 1, hlt, rfl, by rw [hr1]; exact hx⟩, ?_⟩
      simp only [vi, updo_some, ↓reduceIte, f10]; omega
    · have hge2 : ¬ (r : Int) < 10 := by omega
      obtain rfl : r = 10 := by omega
      obtain ⟨wr, lr⟩ := rnds_ok wS 10
      rw [hS16] at lr
      obtain ⟨px, cx, f9, hcx⟩ := nv_open hx
      obtain ⟨bx, ox, rfl, hbx, hcx⟩ := hcx (by intro e; rw [e] at lr; simp at lr)
      have hcs' : ∀ i, i < S.length → hc g ⟨bs, os + i, none⟩ = some (.int .i64 (S.getD i 0 : Nat)) := fun i hi => by rw [b1.hc (by exact hbs)]; exact hcs i hi
      have hbs' : bs < g.size := Nat.lt_of_lt_of_le hbs b1.size
      have hBg : Bel h.size h g := hB.trans (b1.mono hB.size)
      clear hcs hx b1
      obtain ⟨X0, hX0⟩ : ∃ X0, X0 = rnds S 10 := ⟨_, rfl⟩
      rw [← hX0] at wr lr hcx f9
      rw [lr] at hcx f9
      rw [hS16] at hcs' f7
      simp (config := {contextual := true, maxSteps := 2000000, implicitDefEqProofs := false}) only [go_sem, ↓reduceIte, Nat.reduceEqDiff, Nat.reduceAdd, Nat.reduceMul, Nat.reduceLeDiff, Nat.reduceLT, Nat.reduceSub, IntWalk.iteOmega, IntWalk.toNatUp, reduceCtorEq, Int.reduceLE, Int.reduceLT, Int.reduceToNat, Int.reduceNeg, f10, hge2]
      refine VS.loop' (fun F g' => Bel g.size g g' ∧ F 7 = .slice (some ⟨bs, os, none⟩) 16 cs ∧ F 9 = .slice (some ⟨bx, ox, none⟩) 16 cx ∧ ∃ i : Nat, i ≤ 16 ∧ F 12 = .int .i64 i ∧ OBs g.size 5 g' (F 11) ((List.range (4 * i)).map (outF X0 S)))
        (fun F _ => 16 - (vi (F 12)).toNat) rfl ⟨Bel.refl _ _, f7, f9, 0, by omega, rfl, OBs.nil _ _ _⟩ ?_
      clear f7 f9 f10 hge2 hlt hr
      rintro F g1 ⟨b1, f7, f9, i, hi, f12, ho⟩
      have b1s := b1.size
      by_cases hlt : i < 16
      · have hlt' : (i : Int) < 16 := by omega
        have u1 : hc g1 ⟨bs, os + i, none⟩ = some (.int .i64 (S.getD i 0 : Nat)) := by rw [b1.hc (by exact hbs')]; exact hcs' i hlt
        have u2 : hc g1 ⟨bx, ox + i, none⟩ = some (.int .i64 (X0.getD i 0 : Nat)) := by rw [b1.hc (by exact hbx)]; exact hcx i hlt
        have v1 := wS.getD i
        have v2 := wr.getD i
        have e1 : (X0.getD i 0 : Int) + (S.getD i 0 : Int) = ((X0.getD i 0 + S.getD i 0 : Nat) : Int) := by omega
        simp (config := {contextual := true, maxSteps := 2000000, implicitDefEqProofs := false}) only [go_sem, ↓reduceIte, Nat.reduceEqDiff, Nat.reduceAdd, Nat.reduceMul, Nat.reduceLeDiff, Nat.reduceLT, Nat.reduceSub, IntWalk.iteOmega, IntWalk.toNatUp, reduceCtorEq, Int.reduceLE, Int.reduceLT, Int.reduceToNat, Int.reduceNeg, f7, f9, f12, hlt']
        refine VS.w (g1.size) [] (.q 0 (.q 1 (.q 2 (.q 3 (.q 4 (.q 5 (.q 6 (.q 7 (.q 8 (.s 9 (.q 10 .nil))))))))))) mixed (by kernel_rfl) ?_
        have hbs1 : bs < g1.size := by omega
        have hbx1 : bx < g1.size := by omega
        simp (config := {contextual := true, maxSteps := 2000000, implicitDefEqProofs := false}) only [go_sem, ↓reduceIte, Nat.reduceEqDiff, Nat.reduceAdd, Nat.reduceMul, Nat.reduceLeDiff, Nat.reduceLT, Nat.reduceSub, IntWalk.iteOmega, IntWalk.toNatUp, reduceCtorEq, Int.reduceLE, Int.reduceLT, Int.reduceToNat, Int.reduceNeg, f7, f9, f12, u1, u2, e1, hbs1, hbx1]
        refine (word32_ok T _ _).pure ?_
        obtain ⟨n, hn'⟩ : ∃ n, n = (X0.getD i 0 + S.getD i 0) % 4294967296 := ⟨_, rfl⟩
        have hn32 : n < 4294967296 := by omega
        rw [← hn']
        have y0 : outF X0 S (4 * i) = n % 256 := by unfold outF; rw [show 4 * i / 4 = i by omega, show 4 * i % 4 = 0 by omega, ← hn', show (256 : Nat) ^ 0 = 1 from rfl, Nat.div_one]
        have y1 : outF X0 S (4 * i + 1) = n / 256 % 256 := by unfold outF; rw [show (4 * i + 1) / 4 = i by omega, show (4 * i + 1) % 4 = 1 by omega, ← hn']
        have y2 : outF X0 S (4 * i + 2) = n / 65536 % 256 := by unfold outF; rw [show (4 * i + 2) / 4 = i by omega, show (4 * i + 2) % 4 = 2 by omega, ← hn']
        have y3 : outF X0 S (4 * i + 3) = n / 16777216 % 256 := by unfold outF; rw [show (4 * i + 3) / 4 = i by omega, show (4 * i + 3) % 4 = 3 by omega, ← hn']
        have d0 : (n : Int).tmod 256 = ((n % 256 : Nat) : Int) := rfl
        have d1 : (n : Int).tdiv 256 = ((n / 256 : Nat) : Int) := rfl
        have d2 : (n : Int).tdiv 65536 = ((n / 65536 : Nat) : Int) := rfl
        have d3 : (n : Int).tdiv 16777216 = ((n / 16777216 : Nat) : Int) := rfl
        have d4 : ((n / 256 : Nat) : Int).tmod 256 = ((n / 256 % 256 : Nat) : Int) := rfl
        have d5 : ((n / 65536 : Nat) : Int).tmod 256 = ((n / 65536 % 256 : Nat) : Int) := rfl
        have m0 : ((n % 256 : Nat) : Int) % 256 = ((outF X0 S (4 * i) : Nat) : Int) := by rw [y0]; omega
        have m1 : ((n / 256 % 256 : Nat) : Int) % 256 = ((outF X0 S (4 * i + 1) : Nat) : Int) := by rw [y1]; omega
        have m2 : ((n / 65536 % 256 : Nat) : Int) % 256 = ((outF X0 S (4 * i + 2) : Nat) : Int) := by rw [y2]; omega
        have m3 : ((n / 16777216 : Nat) : Int) % 256 = ((outF X0 S (4 * i + 3) : Nat) : Int) := by rw [y3]; omega
        simp (config := {contextual := true, maxSteps := 2000000, implicitDefEqProofs := false}) only [go_sem, ↓reduceIte, Nat.reduceEqDiff, Nat.reduceAdd, Nat.reduceMul, Nat.reduceLeDiff, Nat.reduceLT, Nat.reduceSub, IntWalk.iteOmega, IntWalk.toNatUp, reduceCtorEq, Int.reduceLE, Int.reduceLT, Int.reduceToNat, Int.reduceNeg, f7, f9, f12, d0, d1, d2, d3, d4, d5, m0, m1, m2, m3]
        refine append_bytes (E := 5) (B := g.size) tsl29 Tryd.underlying29 tn5 tz5 tb5 (ho.push _) (by simp; omega) (Bs.made (l := [outF X0 S (4 * i), outF X0 S (4 * i + 1), outF X0 S (4 * i + 2), outF X0 S (4 * i + 3)]) (fun x hx => by simp only [List.mem_cons, List.not_mem_nil, or_false] at hx; rcases hx with rfl | rfl | rfl | rfl <;> exact Nat.mod_lt _ (by decide)) 4) (by simp; omega) ?_
        intro v' h2 ho' hb2 _
        simp (config := {contextual := true, maxSteps := 2000000, implicitDefEqProofs := false}) only [go_sem, ↓reduceIte, Nat.reduceEqDiff, Nat.reduceAdd, Nat.reduceMul, Nat.reduceLeDiff, Nat.reduceLT, Nat.reduceSub, IntWalk.iteOmega, IntWalk.toNatUp, reduceCtorEq, Int.reduceLE, Int.reduceLT, Int.reduceToNat, Int.reduceNeg, f7, f9, f12]
        refine ⟨⟨(b1.addP b1s _).trans hb2, f7, f9, i + 1, hlt, rfl, ?_⟩, ?_⟩
        · rw [outB_snoc]; exact ho'
        · simp only [vi, updo_some, ↓reduceIte, f12]; omega
      · have hge : ¬ (i : Int) < 16 := by omega
        obtain rfl : i = 16 := by omega
        simp (config := {contextual := true, maxSteps := 2000000, implicitDefEqProofs := false}) only [go_sem, ↓reduceIte, Nat.reduceEqDiff, Nat.reduceAdd, Nat.reduceMul, Nat.reduceLeDiff, Nat.reduceLT, Nat.reduceSub, IntWalk.iteOmega, IntWalk.toNatUp, reduceCtorEq, Int.reduceLE, Int.reduceLT, Int.reduceToNat, Int.reduceNeg, f12, hge]
        have hbk : blockS key ctr nonce = (List.range (4 * 16)).map (outF X0 S) := by rw [hX0, hS]; rfl
        rw [hbk]
        exact ⟨ho.mono hBg.size, hBg.trans (b1.mono hBg.size)⟩
/-- What a block's call answers: its fault, and its bytes. -/
def blockErr (key : List Nat) (k : Int) (nonce : List Nat) : Int := if key.length ≠ 32 ∨ nonce.length ≠ 12 then 1 else if k < 0 ∨ 1073741824 < k then 2 else 0
def BlockRes (B : Nat) (h' : Hp) (v' : Value) (key : List Nat) (k : Int) (nonce : List Nat) : Prop := ∃ w, v' = .tuple [w, .int .i64 (blockErr key k nonce)].toArray ∧ OBs B 5 h' w (if blockErr key k nonce = 0 then blockS key k.toNat nonce else [])
theorem block_ok (T : World) (h : Hp) (v u : Value) (key nonce : List Nat) (k : Int) (sk : Bs h v key) (sn : Bs h u nonce) (ck : Cap v) (cn : Cap u) :
    CallsH Tryd.prog T 197 #[v, .int .i64 k, u] h fun v' h' => BlockRes h.size h' v' key k nonce ∧ Bel h.size h h' := by
  obtain ⟨p, c, rfl, _⟩ := sk.open
  obtain ⟨q, d, rfl, _⟩ := sn.open
  refine CallsH.of_code' (args := [_, _, _]) Tryd.func197 rfl rfl rfl rfl ?_
  unfold BlockRes
  simp (config := {contextual := true, maxSteps := 2000000, implicitDefEqProofs := false}) only [go_sem, ↓reduceIte, Nat.reduceEqDiff, Nat.reduceAdd, Nat.reduceMul, Nat.reduceLeDiff, Nat.reduceLT, Nat.reduceSub, IntWalk.iteOmega, IntWalk.toNatUp, reduceCtorEq, Int.reduceLE, Int.reduceLT, Int.reduceToNat, Int.reduceNeg]
  refine (chaCheck_ok T _ _ _ _ _ _ _ _).pure ?_
  rw [show (if key.length ≠ 32 ∨ nonce.length ≠ 12 then (1 : Int) else if k < 0 ∨ 1073741824 < k then 2 else 0) = blockErr key k nonce from rfl]
  by_cases e : blockErr key k nonce = 0
  · have hb : key.length = 32 ∧ nonce.length = 12 ∧ 0 ≤ k ∧ k ≤ 1073741824 := by
      unfold blockErr at e
      repeat' split at e
      all_goals first | omega | cases e
    obtain ⟨hk, hn, k0, k1⟩ := hb
    obtain ⟨m, rfl⟩ : ∃ m : Nat, k = m := ⟨k.toNat, by omega⟩
    have m1 : (m : Int) % 4294967296 = (m : Int) := by omega
    simp (config := {contextual := true, maxSteps := 2000000, implicitDefEqProofs := false}) only [go_sem, ↓reduceIte, Nat.reduceEqDiff, Nat.reduceAdd, Nat.reduceMul, Nat.reduceLeDiff, Nat.reduceLT, Nat.reduceSub, IntWalk.iteOmega, IntWalk.toNatUp, reduceCtorEq, Int.reduceLE, Int.reduceLT, Int.reduceToNat, Int.reduceNeg, e, m1]
    refine (blockHead_ok T _ _ _ key nonce m sk sn hk hn (by omega) ck cn).use ?_
    rintro _ h1 ⟨rfl, b1⟩
    have hl64 : ((blockS key m nonce).map bv).length = 64 := by simp [blockS, outB]
    have hone := bv_one (blockS key m nonce)
    have hput : lput ((List.replicate 64 0).map bv) 0 ((blockS key m nonce).map bv) = (blockS key m nonce).map bv := lput_full (by rw [hl64]; simp)
    have hsm : ∀ x ∈ blockS key m nonce, x < 256 := outB_small _ _
    have hlb : (blockS key m nonce).length = 64 := by simpa using hl64
    generalize blockS key m nonce = X at *
    simp (config := {contextual := true, maxSteps := 2000000, implicitDefEqProofs := false}) only [go_sem, ↓reduceIte, Nat.reduceEqDiff, Nat.reduceAdd, Nat.reduceMul, Nat.reduceLeDiff, Nat.reduceLT, Nat.reduceSub, IntWalk.iteOmega, IntWalk.toNatUp, reduceCtorEq, Int.reduceLE, Int.reduceLT, Int.reduceToNat, Int.reduceNeg, hl64, hone, lput_full]
    have hsrc : Bs (h1.push (.cells (X.map bv).toArray 220)) (.slice (some ⟨h1.size, 0, none⟩) 64 64) X := by
      have := Bs.made (h := h1) (E := 220) hsm 64
      rw [hlb] at this; exact this
    have b1s := b1.size
    refine append_bytes (E := 5) (B := h.size) tsl29 Tryd.underlying29 tn5 tz5 tb5 (OBs.nil _ _ _) (by simp; omega) hsrc (by simp [hlb]) ?_
    intro v' h' ho' hb' _
    simp (config := {contextual := true, maxSteps := 2000000, implicitDefEqProofs := false}) only [go_sem, ↓reduceIte, Nat.reduceEqDiff, Nat.reduceAdd, Nat.reduceMul, Nat.reduceLeDiff, Nat.reduceLT, Nat.reduceSub, IntWalk.iteOmega, IntWalk.toNatUp, reduceCtorEq, Int.reduceLE, Int.reduceLT, Int.reduceToNat, Int.reduceNeg]
    exact ⟨⟨_, rfl, by simpa using ho'⟩, (b1.addP b1s _).trans hb'⟩
  · simp (config := {contextual := true, maxSteps := 2000000, implicitDefEqProofs := false}) only [go_sem, ↓reduceIte, Nat.reduceEqDiff, Nat.reduceAdd, Nat.reduceMul, Nat.reduceLeDiff, Nat.reduceLT, Nat.reduceSub, IntWalk.iteOmega, IntWalk.toNatUp, reduceCtorEq, Int.reduceLE, Int.reduceLT, Int.reduceToNat, Int.reduceNeg, e]
    exact ⟨_, rfl, OBs.nil _ _ _⟩
end Go.Proofs.YtnpacofabdgcdaaDoor
