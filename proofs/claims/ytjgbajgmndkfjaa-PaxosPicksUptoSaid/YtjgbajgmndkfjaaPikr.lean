/- What must be proposed, as the document says; no condition but those in the statements. -/
import Derived.Test.YtjgbajgmndkfjaaPikl
namespace Go.Proofs.Ytjgbajgmndkfjaa
open Go Go.V
set_option linter.unusedSimpArgs false
set_option linter.unusedVariables false
set_option maxRecDepth 100000
theorem ofSlot_app (slot : Int) (a b : List Vt) : ofSlot slot (a ++ b) = ofSlot slot a ++ ofSlot slot b := List.filter_append ..
theorem ofSlot_le (slot : Int) (l : List Vt) : (ofSlot slot l).length ≤ l.length := List.length_filter_le _ _
theorem take_flat_le (LL : List (List Vt)) (i : Nat) : (LL.take i).flatten.length ≤ LL.flatten.length := by
  have h : LL.flatten = (LL.take i).flatten ++ (LL.drop i).flatten := by rw [← List.flatten_append, List.take_append_drop]
  rw [h, List.length_append]; omega
theorem votes_cells {h : Hp} {v : Value} {l : List Vt} (s : Ts voteC 8 h v l) (hne : l ≠ []) : ∃ b o cap, v = .slice (some ⟨b, o, none⟩) l.length cap ∧ b < h.size ∧ ∀ i, i < l.length → rd h ⟨b, o + i * 8 + 1, none⟩ 2 = some (balC (vAt l i).b) ∧ rd h ⟨b, o + i * 8 + 3, none⟩ 5 = some (cmdV (vAt l i)) := by
  obtain ⟨p, cap, hv, hc1⟩ := Ts.open (enc := voteC) (n := 8) (fun _ => rfl) (by decide) s
  obtain ⟨b, o, hp, hb, hcs⟩ := hc1 hne
  refine ⟨b, o, cap, by rw [hv, hp], hb, fun i hi => ?_⟩
  have hx := hcs i hi
  rw [vAt_get hi]
  have sub : ∀ (k : Nat) (cs : List Value), (∀ j (hj : j < cs.length), k + j < (voteC l[i]).length ∧ (voteC l[i])[k + j]? = some cs[j]) → cellsAt h b (o + i * 8 + k) cs := by
    intro k cs hcs j hj
    obtain ⟨h1, h2⟩ := hcs j hj
    have h3 := hx (k + j) h1
    rw [List.getElem?_eq_getElem h1] at h2
    rw [Nat.add_assoc (o + i * 8), h3, ← h2]
  constructor
  · refine (sub 1 (balC l[i].b) (fun j hj => ?_)).rd (by simp [balC]) rfl
    simp only [balC, List.length_cons, List.length_nil] at hj
    match j, hj with
    | 0, _ => exact ⟨by simp [voteC], rfl⟩
    | 1, _ => exact ⟨by simp [voteC], rfl⟩
  · refine (sub 3 (cmdV l[i]) (fun j hj => ?_)).rd (by simp [cmdV]) rfl
    simp only [cmdV, List.length_cons, List.length_nil] at hj
    match j, hj with
    | 0, _ => exact ⟨by simp [voteC], rfl⟩
    | 1, _ => exact ⟨by simp [voteC], rfl⟩
    | 2, _ => exact ⟨by simp [voteC], rfl⟩
    | 3, _ => exact ⟨by simp [voteC], rfl⟩
    | 4, _ => exact ⟨by simp [voteC], rfl⟩
set_option maxHeartbeats 1000000 in
theorem pickedFrom_ok (T : World) (h : Hp) (u : Value) (LL : List (List Vt)) (slot : Int) (s : Vss h u LL) (hL : LL.length ≤ 4611686018427387904) (hT : LL.flatten.length ≤ 2199023255552) :
    CallsH Try.prog T 66 #[u, .int .i64 slot] h fun v' h' => PickRes v' slot LL.flatten ∧ Bel h.size h h' := by
  have hpe : pickErr slot LL.flatten = if slot < 0 ∨ 39 < slot then 2 else if mayAll LL.flatten = true then 0 else 5 := rfl
  obtain ⟨p, c, rfl, hcs⟩ := s
  refine CallsH.of_code2 (args := [_, _]) Try.func66 rfl rfl rfl rfl ?_
  unfold PickRes
  simp (config := {maxSteps := 2000000, implicitDefEqProofs := false}) only [go_sem, ↓reduceIte, Nat.reduceEqDiff, Nat.reduceAdd, Nat.reduceMul, Nat.reduceLeDiff, Nat.reduceLT, Nat.reduceSub, IntWalk.iteOmega, IntWalk.toNatUp, reduceCtorEq, false_and, and_false, false_or, or_false, true_or, or_true, not_true_eq_false, not_false_eq_true, Bool.not_true, Bool.not_false, Bool.and_true, Bool.true_and, Bool.and_false, Bool.false_and, Bool.not_eq_true, beq_self_eq_true, Nat.add_zero, Int.reduceLE, Int.reduceLT, Int.reduceToNat, Int.reduceNeg]
  refine (in_ok T _ slot 0 39).pure ?_
  by_cases q : 0 ≤ slot ∧ slot ≤ 39
  · rw [if_neg (by omega)] at hpe
    have hq : decide (0 ≤ slot ∧ slot ≤ 39) = true := decide_eq_true q
    simp (config := {maxSteps := 2000000, implicitDefEqProofs := false}) only [go_sem, ↓reduceIte, Nat.reduceEqDiff, Nat.reduceAdd, Nat.reduceMul, Nat.reduceLeDiff, Nat.reduceLT, Nat.reduceSub, IntWalk.iteOmega, IntWalk.toNatUp, reduceCtorEq, false_and, and_false, false_or, or_false, true_or, or_true, not_true_eq_false, not_false_eq_true, Bool.not_true, Bool.not_false, Bool.and_true, Bool.true_and, Bool.and_false, Bool.false_and, Bool.not_eq_true, beq_self_eq_true, Nat.add_zero, Int.reduceLE, Int.reduceLT, Int.reduceToNat, Int.reduceNeg, hq]
    obtain ⟨H, hH⟩ : ∃ H : Hp, H = (h.push (.cells #[.int .i64 0, .int .i64 0, .int .i64 0, .int .i64 0, .int .i64 0] 48)) := ⟨_, rfl⟩
    have HB : Bel h.size h H := by rw [hH]; (repeat' (first | exact Bel.refl _ _ | assumption | refine Bel.add ?_ _ | refine Bel.addSet ?_ (by first | omega | (simp; omega)) _ | refine Bel.trans (by assumption) ?_))
    have HZ : H[h.size]? = some (.cells (cmdV vt0).toArray 48) := by rw [hH, get_push_last]; rfl
    rw [← hH]
    clear hH
    have wz : ∀ g : Hp, g[h.size]? = some (.cells (cmdV vt0).toArray 48) → ∀ w : List Value, w.length = 5 → w.all oneC = true → wr g ⟨h.size, 0, none⟩ w = some (g.setIfInBounds h.size (.cells w.toArray 48)) := by
      intro g hg w h5 h1
      rw [wr_get hg 0 w, lput_full (by rw [h5]; rfl), if_pos ⟨by rw [h5]; exact Nat.le_refl _, h1⟩]
    refine VS.loop' (fun F g => F 0 = .slice p LL.length c ∧ F 1 = .int .i64 slot ∧ F 4 = .pointer (some ⟨h.size, 0, none⟩) ∧ Bel h.size h g ∧ g[h.size]? = some (.cells (cmdV vt0).toArray 48) ∧ ∃ i : Nat, i ≤ LL.length ∧ F 8 = .int .i64 i ∧ Ots (h.size + 1) 102 voteC 8 g (F 7) (ofSlot slot (LL.take i).flatten) ∧ mayAll (LL.take i).flatten = true)
      (fun F _ => LL.length - (vi (F 8)).toNat) rfl ⟨rfl, rfl, rfl, HB, HZ, 0, by omega, rfl, Ots.nil _ _ _ _ _, rfl⟩ ?_
    clear HB HZ H
    rintro F g ⟨f0, f1, f4, hg, gZ, i, hi, f8, oA, hall⟩
    by_cases hlt : i < LL.length
    · have hlt' : (i : Int) < LL.length := by omega
      obtain ⟨bb, oo, rfl, hbb, hcs⟩ := hcs (by intro e; rw [e] at hlt; simp at hlt)
      obtain ⟨w, hw, tw, hwl⟩ := hcs i hlt
      have hflat := take_flat LL i hlt
      have hfl := take_flat_le LL (i + 1)
      have hmemLL : LL[i] ∈ LL := List.getElem_mem hlt
      obtain ⟨L, hLi⟩ : ∃ L, L = LL[i] := ⟨_, rfl⟩
      rw [← hLi] at tw hwl hflat hmemLL
      rw [hflat, List.length_append] at hfl
      obtain ⟨pw, cw, rfl, hwc⟩ := votes_open tw
      simp (config := {maxSteps := 2000000, implicitDefEqProofs := false}) only [go_sem, ↓reduceIte, Nat.reduceEqDiff, Nat.reduceAdd, Nat.reduceMul, Nat.reduceLeDiff, Nat.reduceLT, Nat.reduceSub, IntWalk.iteOmega, IntWalk.toNatUp, reduceCtorEq, false_and, and_false, false_or, or_false, true_or, or_true, not_true_eq_false, not_false_eq_true, Bool.not_true, Bool.not_false, Bool.and_true, Bool.true_and, Bool.and_false, Bool.false_and, Bool.not_eq_true, beq_self_eq_true, Nat.add_zero, Int.reduceLE, Int.reduceLT, Int.reduceToNat, Int.reduceNeg, f0, f1, f4, f8, hlt']
      refine VS.loop' (fun F g => F 0 = .slice (some ⟨bb, oo, none⟩) LL.length c ∧ F 1 = .int .i64 slot ∧ F 4 = .pointer (some ⟨h.size, 0, none⟩) ∧ F 8 = .int .i64 i ∧ Bel h.size h g ∧ g[h.size]? = some (.cells (cmdV vt0).toArray 48) ∧ ∃ j : Nat, j ≤ L.length ∧ F 9 = .int .i64 j ∧ Ots (h.size + 1) 102 voteC 8 g (F 7) (ofSlot slot ((LL.take i).flatten ++ L.take j)) ∧ mayAll ((LL.take i).flatten ++ L.take j) = true)
        (fun F _ => L.length - (vi (F 9)).toNat) rfl ⟨f0, f1, f4, f8, hg, gZ, 0, by omega, rfl, by rw [List.take_zero, List.append_nil]; exact oA, by rw [List.take_zero, List.append_nil]; exact hall⟩ ?_
      clear f0 f1 f4 f8 F hg gZ oA hall g
      rintro F g ⟨f0, f1, f4, f8, hg, gZ, j, hj, f9, oA, hall⟩
      have hw' : V.hc g ⟨bb, oo + i, none⟩ = some (.slice pw L.length cw) := by rw [hg.hc (by exact hbb)]; exact hw
      by_cases hlj : j < L.length
      · have hlj' : (j : Int) < L.length := by omega
        obtain ⟨b2, o2, rfl, hb2, hws, hwc⟩ := hwc (by intro e; rw [e] at hlj; simp at hlj)
        have r1 : rd g ⟨b2, o2 + j * 8, none⟩ 8 = some (voteC L[j]) := by rw [rd_bel hg (by exact hb2)]; exact hwc j hlj
        have s1 : V.hc g ⟨b2, o2 + j * 8, none⟩ = some (.int .i64 L[j].slot) := by rw [hg.hc (by exact hb2)]; exact hws j hlj
        have hsn : (LL.take i).flatten ++ L.take (j + 1) = ((LL.take i).flatten ++ L.take j) ++ [L[j]] := by rw [take_snoc L j hlj, List.append_assoc]
        have hmemV : L[j] ∈ LL.flatten := List.mem_flatten.2 ⟨L, hmemLL, List.getElem_mem hlj⟩
        obtain ⟨v, hv⟩ : ∃ v, v = L[j] := ⟨_, rfl⟩
        rw [← hv] at r1 s1 hsn hmemV
        have hm' : mayAll ((LL.take i).flatten ++ L.take (j + 1)) = decide (voteMay v) := by rw [hsn, mayAll_app, hall, Bool.true_and]; simp [mayAll]
        have hof : ofSlot slot ((LL.take i).flatten ++ L.take (j + 1)) = ofSlot slot ((LL.take i).flatten ++ L.take j) ++ (if v.slot = slot then [v] else []) := by
          rw [hsn, ofSlot_app]
          congr 1
          by_cases hc : v.slot = slot <;> simp [ofSlot, hc]
        have hlen := ofSlot_le slot ((LL.take i).flatten ++ L.take j)
        rw [List.length_append, List.length_take] at hlen
        obtain ⟨A, hA⟩ : ∃ A, A = ofSlot slot ((LL.take i).flatten ++ L.take j) := ⟨_, rfl⟩
        rw [← hA] at oA hof hlen
        simp (config := {maxSteps := 2000000, implicitDefEqProofs := false}) only [go_sem, ↓reduceIte, Nat.reduceEqDiff, Nat.reduceAdd, Nat.reduceMul, Nat.reduceLeDiff, Nat.reduceLT, Nat.reduceSub, IntWalk.iteOmega, IntWalk.toNatUp, reduceCtorEq, false_and, and_false, false_or, or_false, true_or, or_true, not_true_eq_false, not_false_eq_true, Bool.not_true, Bool.not_false, Bool.and_true, Bool.true_and, Bool.and_false, Bool.false_and, Bool.not_eq_true, beq_self_eq_true, Nat.add_zero, Int.reduceLE, Int.reduceLT, Int.reduceToNat, Int.reduceNeg, f0, f1, f4, f8, f9, hlt', hlj', Int.toNat_natCast, hw', r1]
        refine (voteMay_ok T _ v).use ?_
        rintro _ g1 ⟨rfl, b1⟩
        have z1 := b1.size
        have hg1 := hg.trans (b1.mono hg.size)
        have gZ1 := b1.get (lt_of_get gZ) gZ
        have hw1 : V.hc g1 ⟨bb, oo + i, none⟩ = some (.slice (some ⟨b2, o2, none⟩) L.length cw) := by rw [hg1.hc (by exact hbb)]; exact hw
        have r2 : rd g1 ⟨b2, o2 + j * 8, none⟩ 8 = some (voteC v) := by rw [rd_bel b1 (by show b2 < g.size; have := hg.size; omega)]; exact r1
        have s2 : V.hc g1 ⟨b2, o2 + j * 8, none⟩ = some (.int .i64 v.slot) := by rw [b1.hc (by show b2 < g.size; have := hg.size; omega)]; exact s1
        have oA1 := oA.bel b1 (Nat.le_refl _)
        by_cases c1 : voteMay v
        · rw [decide_eq_true c1] at hm'
          by_cases c2 : v.slot = slot
          · rw [if_pos c2] at hof
            have zz := lt_of_get gZ1
            unfold voteC at r2
            have c2T := eq_true c2
            simp (config := {maxSteps := 2000000, implicitDefEqProofs := false}) only [go_sem, ↓reduceIte, Nat.reduceEqDiff, Nat.reduceAdd, Nat.reduceMul, Nat.reduceLeDiff, Nat.reduceLT, Nat.reduceSub, IntWalk.iteOmega, IntWalk.toNatUp, reduceCtorEq, false_and, and_false, false_or, or_false, true_or, or_true, not_true_eq_false, not_false_eq_true, Bool.not_true, Bool.not_false, Bool.and_true, Bool.true_and, Bool.and_false, Bool.false_and, Bool.not_eq_true, beq_self_eq_true, Nat.add_zero, Int.reduceLE, Int.reduceLT, Int.reduceToNat, Int.reduceNeg, f0, f1, f4, f8, f9, c1, hlt', hlj', Int.toNat_natCast, hw1, s2, c2T, r2]
            refine append_ts (E := 102) (B := h.size + 1) (n := 8) (bytes := 64) tsl77 Try.underlying77 tn102 tz102 rfl tb102 (fun _ => rfl) (oA1.push _) (by simp; omega) (Ts.one (enc := voteC) v (fun _ => rfl) 1) (by show (A.length + 1) * 64 ≤ _; omega) (by omega) ?_
            intro v' h' ho' hb' _
            simp (config := {maxSteps := 2000000, implicitDefEqProofs := false}) only [go_sem, ↓reduceIte, Nat.reduceEqDiff, Nat.reduceAdd, Nat.reduceMul, Nat.reduceLeDiff, Nat.reduceLT, Nat.reduceSub, IntWalk.iteOmega, IntWalk.toNatUp, reduceCtorEq, false_and, and_false, false_or, or_false, true_or, or_true, not_true_eq_false, not_false_eq_true, Bool.not_true, Bool.not_false, Bool.and_true, Bool.true_and, Bool.and_false, Bool.false_and, Bool.not_eq_true, beq_self_eq_true, Nat.add_zero, Int.reduceLE, Int.reduceLT, Int.reduceToNat, Int.reduceNeg, f0, f1, f4, f8, f9]
            have hbb' : Bel (h.size + 1) g1 h' := (Bel.push (by omega) _).trans hb'
            refine ⟨⟨f0, f1, f4, f8, hg1.trans (hbb'.mono (by omega)), hbb'.get (by omega) gZ1, j + 1, hlj, rfl, by rw [hof]; exact ho', hm'⟩, ?_⟩
            simp only [vi, updo_some, ↓reduceIte, f9]; omega
          · rw [if_neg c2, List.append_nil] at hof
            simp (config := {maxSteps := 2000000, implicitDefEqProofs := false}) only [go_sem, ↓reduceIte, Nat.reduceEqDiff, Nat.reduceAdd, Nat.reduceMul, Nat.reduceLeDiff, Nat.reduceLT, Nat.reduceSub, IntWalk.iteOmega, IntWalk.toNatUp, reduceCtorEq, false_and, and_false, false_or, or_false, true_or, or_true, not_true_eq_false, not_false_eq_true, Bool.not_true, Bool.not_false, Bool.and_true, Bool.true_and, Bool.and_false, Bool.false_and, Bool.not_eq_true, beq_self_eq_true, Nat.add_zero, Int.reduceLE, Int.reduceLT, Int.reduceToNat, Int.reduceNeg, f0, f1, f4, f8, f9, c1, hlt', hlj', Int.toNat_natCast, hw1, s2, c2]
            refine ⟨⟨f0, f1, f4, f8, hg1, gZ1, j + 1, hlj, rfl, by rw [hof]; exact oA1, hm'⟩, ?_⟩
            simp only [vi, updo_some, ↓reduceIte, f9]; omega
        · have hf := mayAll_false hmemV c1
          rw [hf, if_neg (by decide)] at hpe
          have wz1 := wz g1 gZ1 [.int .i64 0, .int .i64 0, .int .i64 0, .int .i64 0, .int .i64 0] rfl rfl
          have zl := lt_of_get gZ1
          simp (config := {maxSteps := 2000000, implicitDefEqProofs := false}) only [go_sem, ↓reduceIte, Nat.reduceEqDiff, Nat.reduceAdd, Nat.reduceMul, Nat.reduceLeDiff, Nat.reduceLT, Nat.reduceSub, IntWalk.iteOmega, IntWalk.toNatUp, reduceCtorEq, false_and, and_false, false_or, or_false, true_or, or_true, not_true_eq_false, not_false_eq_true, Bool.not_true, Bool.not_false, Bool.and_true, Bool.true_and, Bool.and_false, Bool.false_and, Bool.not_eq_true, beq_self_eq_true, Nat.add_zero, Int.reduceLE, Int.reduceLT, Int.reduceToNat, Int.reduceNeg, f0, f1, f4, c1, wz1, zl, hpe]
          exact ⟨rfl, hg1.addSet (Nat.le_refl _) _⟩
      · have hgej : ¬ (j : Int) < L.length := by omega
        obtain rfl : j = L.length := by omega
        rw [List.take_length, ← hflat] at oA hall
        simp (config := {maxSteps := 2000000, implicitDefEqProofs := false}) only [go_sem, ↓reduceIte, Nat.reduceEqDiff, Nat.reduceAdd, Nat.reduceMul, Nat.reduceLeDiff, Nat.reduceLT, Nat.reduceSub, IntWalk.iteOmega, IntWalk.toNatUp, reduceCtorEq, false_and, and_false, false_or, or_false, true_or, or_true, not_true_eq_false, not_false_eq_true, Bool.not_true, Bool.not_false, Bool.and_true, Bool.true_and, Bool.and_false, Bool.false_and, Bool.not_eq_true, beq_self_eq_true, Nat.add_zero, Int.reduceLE, Int.reduceLT, Int.reduceToNat, Int.reduceNeg, f0, f1, f4, f8, f9, hlt', Int.toNat_natCast, hw', hgej]
        refine ⟨⟨f0, f1, f4, hg, gZ, i + 1, hlt, rfl, oA, hall⟩, ?_⟩
        simp only [vi, updo_some, ↓reduceIte, f8]; omega
    · have hge : ¬ (i : Int) < LL.length := by omega
      obtain rfl : i = LL.length := by omega
      rw [List.take_length] at oA hall
      rw [hall, if_pos rfl] at hpe
      rw [hpe, if_pos rfl, if_pos rfl]
      have hbf : bestOf slot LL.flatten = bst (ofSlot slot LL.flatten) := bestOf_filter slot LL.flatten
      have hr : ∀ i, i < (ofSlot slot LL.flatten).length → 1 ≤ (vAt (ofSlot slot LL.flatten) i).b.r := by
        intro i hi
        rw [vAt_get hi]
        have hm := List.mem_filter.1 (List.getElem_mem hi)
        have := List.all_eq_true.1 hall _ hm.1
        exact (of_decide_eq_true this).2.1.1.1
      have hAl := ofSlot_le slot LL.flatten
      rw [hbf]
      obtain ⟨A, hA⟩ : ∃ A, A = ofSlot slot LL.flatten := ⟨_, rfl⟩
      rw [← hA] at oA hr hAl ⊢
      obtain ⟨pA, cA, fA, _⟩ := oA.open
      rw [fA] at oA
      simp (config := {maxSteps := 2000000, implicitDefEqProofs := false}) only [go_sem, ↓reduceIte, Nat.reduceEqDiff, Nat.reduceAdd, Nat.reduceMul, Nat.reduceLeDiff, Nat.reduceLT, Nat.reduceSub, IntWalk.iteOmega, IntWalk.toNatUp, reduceCtorEq, false_and, and_false, false_or, or_false, true_or, or_true, not_true_eq_false, not_false_eq_true, Bool.not_true, Bool.not_false, Bool.and_true, Bool.true_and, Bool.and_false, Bool.false_and, Bool.not_eq_true, beq_self_eq_true, Nat.add_zero, Int.reduceLE, Int.reduceLT, Int.reduceToNat, Int.reduceNeg, f0, f1, f4, f8, fA, hge]
      have hsl := search_law hr
      have G0z := lt_of_get gZ
      refine VS.loop' (fun F g' => F 4 = .pointer (some ⟨h.size, 0, none⟩) ∧ F 7 = .slice pA A.length cA ∧ Bel g.size g g' ∧ ∃ i : Nat, i ≤ A.length ∧ F 10 = .int .i64 i ∧ ∀ i', i' < i → firstOk A i' A.length = false)
        (fun F _ => A.length - (vi (F 10)).toNat) rfl ⟨f4, fA, Bel.refl _ _, 0, by omega, rfl, fun i' hi' => by omega⟩ ?_
      clear f0 f1 f4 f8 fA F
      rintro F g' ⟨f4, f7, hg', i, hi, f10, hno⟩
      have gZ' := hg'.get G0z gZ
      have hB' := hg.trans (hg'.mono hg.size)
      by_cases hlt : i < A.length
      · have hlt' : (i : Int) < A.length := by omega
        have hne : A ≠ [] := by intro e; rw [e] at hlt; simp at hlt
        obtain ⟨bA, oA', cA', hvA, hbA, hcA⟩ := votes_cells oA.ts hne
        simp only [Value.slice.injEq] at hvA
        obtain ⟨rfl, _, rfl⟩ := hvA
        simp (config := {maxSteps := 2000000, implicitDefEqProofs := false}) only [go_sem, ↓reduceIte, Nat.reduceEqDiff, Nat.reduceAdd, Nat.reduceMul, Nat.reduceLeDiff, Nat.reduceLT, Nat.reduceSub, IntWalk.iteOmega, IntWalk.toNatUp, reduceCtorEq, false_and, and_false, false_or, or_false, true_or, or_true, not_true_eq_false, not_false_eq_true, Bool.not_true, Bool.not_false, Bool.and_true, Bool.true_and, Bool.and_false, Bool.false_and, Bool.not_eq_true, beq_self_eq_true, Nat.add_zero, Int.reduceLE, Int.reduceLT, Int.reduceToNat, Int.reduceNeg, f4, f7, f10, hlt']
        refine VS.loop' (fun F g' => F 4 = .pointer (some ⟨h.size, 0, none⟩) ∧ F 7 = .slice (some ⟨bA, oA', none⟩) A.length cA ∧ F 10 = .int .i64 i ∧ Bel g.size g g' ∧ ∃ k : Nat, k ≤ A.length ∧ F 12 = .int .i64 k ∧ F 11 = .bool (firstOk A i k))
          (fun F _ => A.length - (vi (F 12)).toNat) rfl ⟨f4, f7, f10, hg', 0, by omega, rfl, rfl⟩ ?_
        clear f4 f7 f10 F hg' gZ' hB' g'
        rintro F g' ⟨f4, f7, f10, hg', k, hk, f12, f11⟩
        have gZ' := hg'.get G0z gZ
        have hB' := hg.trans (hg'.mono hg.size)
        have hgs' := hg'.size
        by_cases hlk : k < A.length
        · have hlk' : (k : Int) < A.length := by omega
          have y1 : rd g' ⟨bA, oA' + i * 8 + 1, none⟩ 2 = some (balC (vAt A i).b) := by rw [rd_bel hg' (by exact hbA)]; exact (hcA i hlt).1
          have y2 : rd g' ⟨bA, oA' + k * 8 + 1, none⟩ 2 = some (balC (vAt A k).b) := by rw [rd_bel hg' (by exact hbA)]; exact (hcA k hlk).1
          have hnext := firstOk_succ A i k
          obtain ⟨a, ha⟩ : ∃ a, a = (vAt A i).b := ⟨_, rfl⟩
          obtain ⟨b, hb⟩ : ∃ b, b = (vAt A k).b := ⟨_, rfl⟩
          rw [← ha] at y1 hnext
          rw [← hb] at y2 hnext
          have hbA' : bA < g'.size := by omega
          obtain ⟨D, hD⟩ : ∃ D, D = firstOk A i k := ⟨_, rfl⟩
          rw [← hD] at f11 hnext
          simp (config := {maxSteps := 2000000, implicitDefEqProofs := false}) only [go_sem, ↓reduceIte, Nat.reduceEqDiff, Nat.reduceAdd, Nat.reduceMul, Nat.reduceLeDiff, Nat.reduceLT, Nat.reduceSub, IntWalk.iteOmega, IntWalk.toNatUp, reduceCtorEq, false_and, and_false, false_or, or_false, true_or, or_true, not_true_eq_false, not_false_eq_true, Bool.not_true, Bool.not_false, Bool.and_true, Bool.true_and, Bool.and_false, Bool.false_and, Bool.not_eq_true, beq_self_eq_true, Nat.add_zero, Int.reduceLE, Int.reduceLT, Int.reduceToNat, Int.reduceNeg, f4, f7, f10, f12, hlk']
          refine VS.w (g'.size) [] (.q 0 (.q 1 (.q 2 (.q 3 (.q 4 (.q 5 (.q 6 (.q 7 (.q 8 (.q 9 (.s 10 (.q 11 (.q 12 (.q 13 (.q 14 (.q 15 (.q 16 (.q 17 (.q 18 (.q 19 (.q 20 (.q 21 (.q 22 (.q 23 (.q 24 (.q 25 (.q 26 (.q 27 (.q 28 .nil))))))))))))))))))))))))))))) mixed (by kernel_rfl) ?_
          simp (config := {maxSteps := 2000000, implicitDefEqProofs := false}) only [go_sem, ↓reduceIte, Nat.reduceEqDiff, Nat.reduceAdd, Nat.reduceMul, Nat.reduceLeDiff, Nat.reduceLT, Nat.reduceSub, IntWalk.iteOmega, IntWalk.toNatUp, reduceCtorEq, false_and, and_false, false_or, or_false, true_or, or_true, not_true_eq_false, not_false_eq_true, Bool.not_true, Bool.not_false, Bool.and_true, Bool.true_and, Bool.and_false, Bool.false_and, Bool.not_eq_true, beq_self_eq_true, Nat.add_zero, Int.reduceLE, Int.reduceLT, Int.reduceToNat, Int.reduceNeg, f4, f7, f10, f12, hlt', hlk', Int.toNat_natCast, y1, y2, hbA']
          refine (ballotBelow_ok T _ a b).use ?_
          rintro _ g2 ⟨rfl, b2⟩
          have b2T : Bel g'.size g' g2 = True := eq_true b2
          have hg2 := hg'.trans (b2.mono hgs')
          by_cases c1 : below a b
          · rw [decide_eq_true c1, Bool.true_or, Bool.not_true, Bool.and_false] at hnext
            simp (config := {maxSteps := 2000000, implicitDefEqProofs := false}) only [go_sem, ↓reduceIte, Nat.reduceEqDiff, Nat.reduceAdd, Nat.reduceMul, Nat.reduceLeDiff, Nat.reduceLT, Nat.reduceSub, IntWalk.iteOmega, IntWalk.toNatUp, reduceCtorEq, false_and, and_false, false_or, or_false, true_or, or_true, not_true_eq_false, not_false_eq_true, Bool.not_true, Bool.not_false, Bool.and_true, Bool.true_and, Bool.and_false, Bool.false_and, Bool.not_eq_true, beq_self_eq_true, Nat.add_zero, Int.reduceLE, Int.reduceLT, Int.reduceToNat, Int.reduceNeg, f4, f7, f10, f11, f12, b2T, c1]
            refine ⟨⟨f4, f7, f10, hg2, k + 1, hlk, rfl, by rw [hnext]; rfl⟩, ?_⟩
            simp only [vi, updo_some, ↓reduceIte, f12]; omega
          · rw [decide_eq_false c1, Bool.false_or] at hnext
            by_cases c2 : k < i
            · have c2' : (k : Int) < i := by omega
              rw [decide_eq_true c2, Bool.true_and] at hnext
              unfold balC at y1 y2
              by_cases c3 : a.r = b.r
              · by_cases c4 : a.n = b.n
                · have c5 : sameB b a := ⟨c3.symm, c4.symm⟩
                  rw [decide_eq_true c5, Bool.not_true, Bool.and_false] at hnext
                  have e3 : b.r = a.r := c3.symm
                  have e4 : b.n = a.n := c4.symm
                  simp (config := {maxSteps := 2000000, implicitDefEqProofs := false}) only [go_sem, ↓reduceIte, Nat.reduceEqDiff, Nat.reduceAdd, Nat.reduceMul, Nat.reduceLeDiff, Nat.reduceLT, Nat.reduceSub, IntWalk.iteOmega, IntWalk.toNatUp, reduceCtorEq, false_and, and_false, false_or, or_false, true_or, or_true, not_true_eq_false, not_false_eq_true, Bool.not_true, Bool.not_false, Bool.and_true, Bool.true_and, Bool.and_false, Bool.false_and, Bool.not_eq_true, beq_self_eq_true, Nat.add_zero, Int.reduceLE, Int.reduceLT, Int.reduceToNat, Int.reduceNeg, f4, f7, f10, f11, f12, b2T, c1, c2', hlt', hlk', Int.toNat_natCast, y1, y2, hbA', e3, e4]
                  refine ⟨⟨f4, f7, f10, hg2, k + 1, hlk, rfl, by rw [hnext]; rfl⟩, ?_⟩
                  simp only [vi, updo_some, ↓reduceIte, f12]; omega
                · have c5 : ¬ sameB b a := fun e => c4 e.2.symm
                  rw [decide_eq_false c5, Bool.not_false, Bool.and_true] at hnext
                  have e3 : b.r = a.r := c3.symm
                  have e4 : ¬ b.n = a.n := fun e => c4 e.symm
                  simp (config := {maxSteps := 2000000, implicitDefEqProofs := false}) only [go_sem, ↓reduceIte, Nat.reduceEqDiff, Nat.reduceAdd, Nat.reduceMul, Nat.reduceLeDiff, Nat.reduceLT, Nat.reduceSub, IntWalk.iteOmega, IntWalk.toNatUp, reduceCtorEq, false_and, and_false, false_or, or_false, true_or, or_true, not_true_eq_false, not_false_eq_true, Bool.not_true, Bool.not_false, Bool.and_true, Bool.true_and, Bool.and_false, Bool.false_and, Bool.not_eq_true, beq_self_eq_true, Nat.add_zero, Int.reduceLE, Int.reduceLT, Int.reduceToNat, Int.reduceNeg, f4, f7, f10, f11, f12, b2T, c1, c2', hlt', hlk', Int.toNat_natCast, y1, y2, hbA', e3, e4]
                  refine ⟨⟨f4, f7, f10, hg2, k + 1, hlk, rfl, by rw [hnext]; exact f11⟩, ?_⟩
                  simp only [vi, updo_some, ↓reduceIte, f12]; omega
              · have c5 : ¬ sameB b a := fun e => c3 e.1.symm
                rw [decide_eq_false c5, Bool.not_false, Bool.and_true] at hnext
                have e3 : ¬ b.r = a.r := fun e => c3 e.symm
                simp (config := {maxSteps := 2000000, implicitDefEqProofs := false}) only [go_sem, ↓reduceIte, Nat.reduceEqDiff, Nat.reduceAdd, Nat.reduceMul, Nat.reduceLeDiff, Nat.reduceLT, Nat.reduceSub, IntWalk.iteOmega, IntWalk.toNatUp, reduceCtorEq, false_and, and_false, false_or, or_false, true_or, or_true, not_true_eq_false, not_false_eq_true, Bool.not_true, Bool.not_false, Bool.and_true, Bool.true_and, Bool.and_false, Bool.false_and, Bool.not_eq_true, beq_self_eq_true, Nat.add_zero, Int.reduceLE, Int.reduceLT, Int.reduceToNat, Int.reduceNeg, f4, f7, f10, f11, f12, b2T, c1, c2', hlt', hlk', Int.toNat_natCast, y1, y2, hbA', e3]
                refine ⟨⟨f4, f7, f10, hg2, k + 1, hlk, rfl, by rw [hnext]; exact f11⟩, ?_⟩
                simp only [vi, updo_some, ↓reduceIte, f12]; omega
            · have c2' : ¬ (k : Int) < i := by omega
              rw [decide_eq_false c2, Bool.false_and, Bool.not_false, Bool.and_true] at hnext
              simp (config := {maxSteps := 2000000, implicitDefEqProofs := false}) only [go_sem, ↓reduceIte, Nat.reduceEqDiff, Nat.reduceAdd, Nat.reduceMul, Nat.reduceLeDiff, Nat.reduceLT, Nat.reduceSub, IntWalk.iteOmega, IntWalk.toNatUp, reduceCtorEq, false_and, and_false, false_or, or_false, true_or, or_true, not_true_eq_false, not_false_eq_true, Bool.not_true, Bool.not_false, Bool.and_true, Bool.true_and, Bool.and_false, Bool.false_and, Bool.not_eq_true, beq_self_eq_true, Nat.add_zero, Int.reduceLE, Int.reduceLT, Int.reduceToNat, Int.reduceNeg, f4, f7, f10, f11, f12, b2T, c1, c2']
              refine ⟨⟨f4, f7, f10, hg2, k + 1, hlk, rfl, by rw [hnext]; exact f11⟩, ?_⟩
              simp only [vi, updo_some, ↓reduceIte, f12]; omega
        · have hgek : ¬ (k : Int) < A.length := by omega
          obtain rfl : k = A.length := by omega
          obtain ⟨D, hD⟩ : ∃ D, D = firstOk A i A.length := ⟨_, rfl⟩
          rw [← hD] at f11
          cases D with
          | true =>
            have hbst : bst A = vAt A i := by
              rcases hsl with ⟨e, _⟩ | ⟨m, h1, h2, h3, h4⟩
              · exact (hne e).elim
              · have : m = i := by
                  rcases Nat.lt_trichotomy m i with hh | hh | hh
                  · have := hno m hh; rw [h3] at this; cases this
                  · exact hh
                  · have := h4 i hh; rw [← hD] at this; cases this
                rw [h2, this]
            have hri := hr i hlt
            have y3 : rd g' ⟨bA, oA' + i * 8 + 3, none⟩ 5 = some (cmdV (vAt A i)) := by rw [rd_bel hg' (by exact hbA)]; exact (hcA i hlt).2
            have wB := wz g' gZ' (cmdV (vAt A i)) rfl rfl
            have zl := lt_of_get gZ'
            have hpos : decide (0 < (vAt A i).b.r) = true := decide_eq_true (by omega)
            rw [hbst, hpos]
            unfold cmdV at y3 wB ⊢
            simp (config := {maxSteps := 2000000, implicitDefEqProofs := false}) only [go_sem, ↓reduceIte, Nat.reduceEqDiff, Nat.reduceAdd, Nat.reduceMul, Nat.reduceLeDiff, Nat.reduceLT, Nat.reduceSub, IntWalk.iteOmega, IntWalk.toNatUp, reduceCtorEq, false_and, and_false, false_or, or_false, true_or, or_true, not_true_eq_false, not_false_eq_true, Bool.not_true, Bool.not_false, Bool.and_true, Bool.true_and, Bool.and_false, Bool.false_and, Bool.not_eq_true, beq_self_eq_true, Nat.add_zero, Int.reduceLE, Int.reduceLT, Int.reduceToNat, Int.reduceNeg, f4, f7, f10, f11, f12, hgek, hlt', Int.toNat_natCast, y3, wB, zl]
            exact hB'.addSet (Nat.le_refl _) _
          | false =>
            simp (config := {maxSteps := 2000000, implicitDefEqProofs := false}) only [go_sem, ↓reduceIte, Nat.reduceEqDiff, Nat.reduceAdd, Nat.reduceMul, Nat.reduceLeDiff, Nat.reduceLT, Nat.reduceSub, IntWalk.iteOmega, IntWalk.toNatUp, reduceCtorEq, false_and, and_false, false_or, or_false, true_or, or_true, not_true_eq_false, not_false_eq_true, Bool.not_true, Bool.not_false, Bool.and_true, Bool.true_and, Bool.and_false, Bool.false_and, Bool.not_eq_true, beq_self_eq_true, Nat.add_zero, Int.reduceLE, Int.reduceLT, Int.reduceToNat, Int.reduceNeg, f4, f7, f10, f11, f12, hgek]
            refine ⟨⟨f4, f7, hg', i + 1, hlt, rfl, fun i' hi' => ?_⟩, ?_⟩
            · by_cases e : i' = i
              · rw [e]; exact hD.symm
              · exact hno i' (by omega)
            · simp only [vi, updo_some, ↓reduceIte, f10]; omega
      · have hge : ¬ (i : Int) < A.length := by omega
        obtain rfl : i = A.length := by omega
        have hbst : bst A = vt0 := by
          rcases hsl with ⟨_, e⟩ | ⟨m, h1, h2, h3, h4⟩
          · exact e
          · have := hno m h1; rw [h3] at this; cases this
        have wz1 := wz g' gZ' [.int .i64 0, .int .i64 0, .int .i64 0, .int .i64 0, .int .i64 0] rfl rfl
        have zl := lt_of_get gZ'
        rw [hbst]
        simp (config := {maxSteps := 2000000, implicitDefEqProofs := false}) only [go_sem, ↓reduceIte, Nat.reduceEqDiff, Nat.reduceAdd, Nat.reduceMul, Nat.reduceLeDiff, Nat.reduceLT, Nat.reduceSub, IntWalk.iteOmega, IntWalk.toNatUp, reduceCtorEq, false_and, and_false, false_or, or_false, true_or, or_true, not_true_eq_false, not_false_eq_true, Bool.not_true, Bool.not_false, Bool.and_true, Bool.true_and, Bool.and_false, Bool.false_and, Bool.not_eq_true, beq_self_eq_true, Nat.add_zero, Int.reduceLE, Int.reduceLT, Int.reduceToNat, Int.reduceNeg, f4, f7, f10, hge, wz1, zl]
        exact ⟨rfl, hB'.addSet (Nat.le_refl _) _⟩
  · rw [if_pos (by omega)] at hpe
    have hq : decide (0 ≤ slot ∧ slot ≤ 39) = false := decide_eq_false q
    simp (config := {maxSteps := 2000000, implicitDefEqProofs := false}) only [go_sem, ↓reduceIte, Nat.reduceEqDiff, Nat.reduceAdd, Nat.reduceMul, Nat.reduceLeDiff, Nat.reduceLT, Nat.reduceSub, IntWalk.iteOmega, IntWalk.toNatUp, reduceCtorEq, false_and, and_false, false_or, or_false, true_or, or_true, not_true_eq_false, not_false_eq_true, Bool.not_true, Bool.not_false, Bool.and_true, Bool.true_and, Bool.and_false, Bool.false_and, Bool.not_eq_true, beq_self_eq_true, Nat.add_zero, Int.reduceLE, Int.reduceLT, Int.reduceToNat, Int.reduceNeg, hq, hpe]
    rfl
end Go.Proofs.Ytjgbajgmndkfjaa
