/- A number that was met, and a channel with a number more; no condition but those in the statements. -/
import Derived.Test.YtnpacofabdgcdaaDoorSndr
namespace Go.Proofs.YtnpacofabdgcdaaDoor
open Go Go.V
set_option linter.unusedSimpArgs false
set_option linter.unusedVariables false
set_option maxRecDepth 100000
def metB (top : Int) (s : List Bool) (n : Nat) : Bool := decide ((n : Int) < top - 8) || (decide ((n : Int) < top) && s.getD ((n : Int) - (top - 8)).toNat false)
theorem met_ok (T : World) (h : Hp) (k : Value) (sent top : Int) (s : List Bool) (n : Nat) (hs : s.length = 8) (t0 : 0 ≤ top) (t1 : top ≤ 1073741824) (hn : n < 1073741824) :
    CallsH Tryd.prog T 155 #[.agg (chanC k sent top s).toArray, .int .i64 n] h fun v' h' => v' = .bool (metB top s n) ∧ Bel h.size h h' := by
  have hC11 := chanC_length k sent top s hs
  have tk := take_len hC11
  have n2 : nth (chanC k sent top s) 2 = some (.int .i64 top) := rfl
  refine CallsH.of_code' (args := [_, _]) Tryd.func155 rfl rfl rfl rfl ?_
  unfold metB
  by_cases q1 : (n : Int) < top - 8
  · have d1 : decide ((n : Int) < top - 8) = true := decide_eq_true q1
    simp (config := {maxSteps := 2000000, implicitDefEqProofs := false}) only [go_sem, ↓reduceIte, Nat.reduceEqDiff, Nat.reduceAdd, Nat.reduceMul, Nat.reduceLeDiff, Nat.reduceLT, Nat.reduceSub, IntWalk.iteOmega, IntWalk.toNatUp, reduceCtorEq, Int.reduceLE, Int.reduceLT, Int.reduceToNat, Int.reduceNeg, hC11, tk, n2, q1, d1, Bool.true_or]
  · have d1 : decide ((n : Int) < top - 8) = false := decide_eq_false q1
    by_cases q2 : (n : Int) < top
    · have d2 : decide ((n : Int) < top) = true := decide_eq_true q2
      obtain ⟨i, hi⟩ : ∃ i : Nat, (n : Int) - (top - 8) = i := ⟨((n : Int) - (top - 8)).toNat, by omega⟩
      have hi8 : i < 8 := by omega
      have hi8' : (i : Int) < 8 := by omega
      have n3 : nth (chanC k sent top s) (3 + i) = some (.bool (s.getD i false)) := by
        have := bools_nth s i (by omega)
        rw [nth_eq] at this ⊢
        rw [← this]
        show (k :: .int .i64 sent :: .int .i64 top :: s.map Value.bool)[3 + i]? = _
        rw [Nat.add_comm]; rfl
      simp (config := {maxSteps := 2000000, implicitDefEqProofs := false}) only [go_sem, ↓reduceIte, Nat.reduceEqDiff, Nat.reduceAdd, Nat.reduceMul, Nat.reduceLeDiff, Nat.reduceLT, Nat.reduceSub, IntWalk.iteOmega, IntWalk.toNatUp, reduceCtorEq, Int.reduceLE, Int.reduceLT, Int.reduceToNat, Int.reduceNeg, hC11, tk, n2, q1, q2, d1, d2, hi, hi8', Int.toNat_natCast, n3, Bool.false_or]
    · have d2 : decide ((n : Int) < top) = false := decide_eq_false q2
      simp (config := {maxSteps := 2000000, implicitDefEqProofs := false}) only [go_sem, ↓reduceIte, Nat.reduceEqDiff, Nat.reduceAdd, Nat.reduceMul, Nat.reduceLeDiff, Nat.reduceLT, Nat.reduceSub, IntWalk.iteOmega, IntWalk.toNatUp, reduceCtorEq, Int.reduceLE, Int.reduceLT, Int.reduceToNat, Int.reduceNeg, hC11, tk, n2, q1, q2, d1, d2, Bool.false_or]
theorem lput_three (k : Value) (sent top : Int) (s t : List Bool) (hs : s.length = 8) (ht : t.length = 8) : lput (chanC k sent top s) 3 (t.map Value.bool) = chanC k sent top t := by
  have := lput_app [k, .int .i64 sent, .int .i64 top] (s.map Value.bool) (t.map Value.bool)
  rw [lput_full (by simp [hs, ht])] at this
  exact this
set_option maxHeartbeats 1000000 in
theorem with_ok (T : World) (h : Hp) (k : Value) (kl : List Nat) (sent top : Int) (s : List Bool) (n : Nat) (hs : s.length = 8) (sk : Bs h k kl) (hk : kl.length ≤ 140737488355328) (t0 : 0 ≤ top) (t1 : top ≤ 1073741824) (hn : n < 1073741824) (hm : ¬ (n : Int) < top - 8) :
    CallsH Tryd.prog T 157 #[.agg (chanC k sent top s).toArray, .int .i64 n] h fun v' h' => ChanRes h.size h' v' kl sent (max top (n + 1)) (seenOf (metN top s 8 ++ [(n : Int)]) (max top (n + 1))) ∧ Bel h.size h h' := by
  obtain ⟨p, c, rfl, _⟩ := sk.open
  have hC11 := chanC_length (.slice p kl.length c) sent top s hs
  have tk := take_len hC11
  refine CallsH.of_code2 (args := [_, _]) Tryd.func157 rfl rfl rfl rfl ?_
  simp (config := {maxSteps := 2000000, implicitDefEqProofs := false}) only [go_sem, ↓reduceIte, Nat.reduceEqDiff, Nat.reduceAdd, Nat.reduceMul, Nat.reduceLeDiff, Nat.reduceLT, Nat.reduceSub, IntWalk.iteOmega, IntWalk.toNatUp, reduceCtorEq, Int.reduceLE, Int.reduceLT, Int.reduceToNat, Int.reduceNeg, hC11, tk]
  have hpush : Bel h.size h ((h.push (.cells (chanC (.slice p kl.length c) sent top s).toArray 143)).push (.cells chanZ.toArray 143)) := by (repeat' (first | exact Bel.refl _ _ | assumption | refine Bel.add ?_ _ | refine Bel.addSet ?_ (by first | omega | (simp; omega)) _ | refine Bel.trans (by assumption) ?_))
  refine (own_ok T _ _ kl sent top s hs (sk.bel hpush) hk).use ?_
  rintro _ g1 ⟨⟨w, rfl, o1⟩, b1⟩
  have x0 : g1[h.size]? = some (.cells (chanC (.slice p kl.length c) sent top s).toArray 143) := b1.get (by simp only [Array.size_push]; omega) (by simp only [Array.getElem?_push, Array.size_push, IntWalk.iteOmega, ↓reduceIte])
  have x1 : g1[h.size + 1]? = some (.cells chanZ.toArray 143) := b1.get (by simp only [Array.size_push]; omega) (by simp only [Array.getElem?_push, Array.size_push, IntWalk.iteOmega, ↓reduceIte] <;> rfl)
  have hB1 : Bel h.size h g1 := hpush.trans (b1.mono (by simp; omega))
  have z1 := lt_of_get x1
  simp only [Array.size_push] at o1
  obtain ⟨pw, cw, rfl, _⟩ := o1.open
  clear b1 hpush
  have y2 : V.hc g1 ⟨h.size, 2, none⟩ = some (.int .i64 top) := by rw [hc_last x0]; rfl
  have hD11 := chanC_length (.slice pw kl.length cw) sent top s hs
  have tkD := take_len hD11
  have oD := chanC_one (p := pw) (n := kl.length) (c := cw) sent top s
  have lpD : ∀ v, lput [v, .int .i64 0, .int .i64 0, .bool false, .bool false, .bool false, .bool false, .bool false, .bool false, .bool false, .bool false] 0 (chanC (.slice pw kl.length cw) sent top s) = chanC (.slice pw kl.length cw) sent top s := fun v => lput_full hD11
  have e1 : (n : Int) + 1 = ((n + 1 : Nat) : Int) := rfl
  obtain ⟨TP, hTP⟩ : ∃ TP : Int, TP = max top (n + 1) := ⟨_, rfl⟩
  have hmax : (if ((n + 1 : Nat) : Int) > top then ((n + 1 : Nat) : Int) else top) = TP := by rw [hTP]; split <;> omega
  have sD : (chanC (.slice pw kl.length cw) sent top s).set 2 (.int .i64 TP) = chanC (.slice pw kl.length cw) sent TP s := rfl
  have hE11 := chanC_length (.slice pw kl.length cw) sent TP s hs
  have lE : lput (chanC (.slice pw kl.length cw) sent TP s) 3 [.bool false, .bool false, .bool false, .bool false, .bool false, .bool false, .bool false, .bool false] = chanC (.slice pw kl.length cw) sent TP (seenOf (metN top s 0) TP) := lput_three (.slice pw kl.length cw) sent TP s noSeen hs rfl
  have y0r : rd g1 ⟨h.size, 3, none⟩ 8 = some (s.map Value.bool) := by
    have hs' : (s.map Value.bool).length = 8 := by rw [List.length_map, hs]
    have := rd_part x0 (o := 3) (n := 8) (by rw [hC11]; omega)
    rw [this]
    have e : (chanC (.slice p kl.length c) sent top s).drop 3 = s.map Value.bool := rfl
    rw [e, take_len hs']
  rw [← hTP]
  simp (config := {maxSteps := 2000000, implicitDefEqProofs := false}) only [go_sem, ↓reduceIte, Nat.reduceEqDiff, Nat.reduceAdd, Nat.reduceMul, Nat.reduceLeDiff, Nat.reduceLT, Nat.reduceSub, IntWalk.iteOmega, IntWalk.toNatUp, reduceCtorEq, Int.reduceLE, Int.reduceLT, Int.reduceToNat, Int.reduceNeg, hD11, tkD, oD, lpD, y2, e1, hmax, sD, hE11, lE, y0r]
  obtain ⟨bo, hbo⟩ : ∃ b, b = g1.size := ⟨_, rfl⟩
  obtain ⟨J, hJ⟩ : ∃ J, J = g1.push (.cells (chanC (.slice pw kl.length cw) sent TP (seenOf (metN top s 0) TP)).toArray 143) := ⟨_, rfl⟩
  have J5 : J[bo]? = some (.cells (chanC (.slice pw kl.length cw) sent TP (seenOf (metN top s 0) TP)).toArray 143) := by rw [hJ, hbo]; exact get_push_last
  have J0 : J[h.size]? = some (.cells (chanC (.slice p kl.length c) sent top s).toArray 143) := by rw [hJ, get_push_ne (by omega)]; exact x0
  have J1 : J[h.size + 1]? = some (.cells chanZ.toArray 143) := by rw [hJ, get_push_ne (by omega)]; exact x1
  have JB : Bel h.size h J := by rw [hJ]; exact hB1.addP hB1.size _
  have Jo : OBs (h.size + 1 + 1) 5 J (.slice pw kl.length cw) kl := by rw [hJ]; exact o1.push _
  have Jlt : ∀ b, blkOf (.slice pw kl.length cw) = some b → b < bo := fun b hb => by have := o1.own.lt b hb; omega
  have Jsz : J.size = bo + 1 := by rw [hJ, Array.size_push, hbo]
  rw [← hJ, ← hbo]
  clear hJ
  refine VS.loop' (fun F g => F 1 = .int .i64 n ∧ F 2 = .pointer (some ⟨h.size, 0, none⟩) ∧ F 4 = .pointer (some ⟨h.size + 1, 0, none⟩) ∧ F 5 = .pointer (some ⟨bo, 0, none⟩) ∧ F 20 = .agg (s.map Value.bool).toArray ∧ ∃ i : Nat, i ≤ 8 ∧ F 21 = .int .i64 i ∧ g = J.setIfInBounds bo (.cells (chanC (.slice pw kl.length cw) sent TP (seenOf (metN top s i) TP)).toArray 143))
    (fun F _ => 8 - (vi (F 21)).toNat) rfl ⟨rfl, rfl, rfl, rfl, rfl, 0, by omega, rfl, (set_same J5).symm⟩ ?_
  rintro F g ⟨f1, f2, f4, f5, f20, i, hi, f21, rfl⟩
  have hx := cells_new (o := .cells (chanC (.slice pw kl.length cw) sent TP (seenOf (metN top s i) TP)).toArray 143) J5
  have hx0 : (J.setIfInBounds bo (.cells (chanC (.slice pw kl.length cw) sent TP (seenOf (metN top s i) TP)).toArray 143))[h.size]? = some (.cells (chanC (.slice p kl.length c) sent top s).toArray 143) := by rw [Array.getElem?_setIfInBounds, if_neg (by omega)]; exact J0
  have sl8 := seenOf_length (metN top s i) TP
  have hnext := metN_succ top s i
  obtain ⟨SS, hSS⟩ : ∃ SS, SS = seenOf (metN top s i) TP := ⟨_, rfl⟩
  by_cases hlt : i < 8
  · have hlt' : (i : Int) < 8 := by omega
    rw [← hSS] at hx hx0 sl8 ⊢
    obtain ⟨G, hG⟩ : ∃ G, G = J.setIfInBounds bo (.cells (chanC (.slice pw kl.length cw) sent TP SS).toArray 143) := ⟨_, rfl⟩
    rw [← hG] at hx hx0 ⊢
    have n1 := bools_nth s i (by omega)
    have y2 : V.hc G ⟨h.size, 2, none⟩ = some (.int .i64 top) := by rw [hc_last hx0]; rfl
    have y5 : V.hc G ⟨bo, 2, none⟩ = some (.int .i64 TP) := by rw [hc_last hx]; rfl
    obtain ⟨b, hb⟩ : ∃ b, b = s.getD i false := ⟨_, rfl⟩
    rw [← hb] at n1 hnext
    cases b with
    | false =>
      rw [if_neg (by decide), List.append_nil] at hnext
      simp (config := {maxSteps := 2000000, implicitDefEqProofs := false}) only [go_sem, ↓reduceIte, Nat.reduceEqDiff, Nat.reduceAdd, Nat.reduceMul, Nat.reduceLeDiff, Nat.reduceLT, Nat.reduceSub, IntWalk.iteOmega, IntWalk.toNatUp, reduceCtorEq, Int.reduceLE, Int.reduceLT, Int.reduceToNat, Int.reduceNeg, f1, f2, f4, f5, f20, f21, hlt', Int.toNat_natCast, n1, y2, y5]
      refine ⟨⟨f1, f2, f4, f5, f20, i + 1, hlt, rfl, ?_⟩, ?_⟩
      · rw [hnext, hG, hSS]
      · simp only [vi, updo_some, ↓reduceIte, f21]; omega
    | true =>
      rw [if_pos rfl] at hnext
      have hsn := seenOf_snoc (metN top s i) TP (top - 8 + (i : Int)) (by omega)
      rw [← hnext, ← hSS] at hsn
      have ex : top - 8 + (i : Int) - TP + 8 = top + (i : Int) - TP := by omega
      rw [ex] at hsn
      by_cases hk0 : 0 ≤ top + (i : Int) - TP
      · rw [if_pos hk0] at hsn
        obtain ⟨j, hj⟩ : ∃ j : Nat, top + (i : Int) - TP = j := ⟨(top + (i : Int) - TP).toNat, by omega⟩
        rw [hj, Int.toNat_natCast] at hsn
        have hj8 : (j : Int) < 8 := by omega
        have hj0 : (0 : Int) ≤ (j : Int) := by omega
        have hj8' : j < 8 := by omega
        have hlen := chanC_length (.slice pw kl.length cw) sent TP SS sl8
        have w1 : wr1 G ⟨bo, 3 + j, none⟩ (.bool true) = some (G.setIfInBounds bo (.cells (chanC (.slice pw kl.length cw) sent TP (SS.set j true)).toArray 143)) := by
          rw [wr1_get hx, if_pos ⟨by rw [hlen]; omega, rfl⟩, chan_set]
        simp (config := {maxSteps := 2000000, implicitDefEqProofs := false}) only [go_sem, ↓reduceIte, Nat.reduceEqDiff, Nat.reduceAdd, Nat.reduceMul, Nat.reduceLeDiff, Nat.reduceLT, Nat.reduceSub, IntWalk.iteOmega, IntWalk.toNatUp, reduceCtorEq, Int.reduceLE, Int.reduceLT, Int.reduceToNat, Int.reduceNeg, f1, f2, f4, f5, f20, f21, hlt', Int.toNat_natCast, n1, y2, y5, hj, hj0, hj8, w1]
        refine ⟨⟨f1, f2, f4, f5, f20, i + 1, hlt, rfl, ?_⟩, ?_⟩
        · rw [hsn, hG, set_set]
        · simp only [vi, updo_some, ↓reduceIte, f21]; omega
      · rw [if_neg hk0] at hsn
        simp (config := {maxSteps := 2000000, implicitDefEqProofs := false}) only [go_sem, ↓reduceIte, Nat.reduceEqDiff, Nat.reduceAdd, Nat.reduceMul, Nat.reduceLeDiff, Nat.reduceLT, Nat.reduceSub, IntWalk.iteOmega, IntWalk.toNatUp, reduceCtorEq, Int.reduceLE, Int.reduceLT, Int.reduceToNat, Int.reduceNeg, f1, f2, f4, f5, f20, f21, hlt', Int.toNat_natCast, n1, y2, y5, hk0]
        refine ⟨⟨f1, f2, f4, f5, f20, i + 1, hlt, rfl, ?_⟩, ?_⟩
        · rw [hsn, hG]
        · simp only [vi, updo_some, ↓reduceIte, f21]; omega
  · have hge : ¬ (i : Int) < 8 := by omega
    obtain rfl : i = 8 := by omega
    have c8 : ((8 : Nat) : Int) = 8 := rfl
    rw [c8] at f21 hge
    have hsn := seenOf_snoc (metN top s 8) TP (n : Int) (by omega)
    rw [if_pos (by omega), ← hSS] at hsn
    have hx1 : (J.setIfInBounds bo (.cells (chanC (.slice pw kl.length cw) sent TP (seenOf (metN top s 8) TP)).toArray 143))[h.size + 1]? = some (.cells chanZ.toArray 143) := by rw [Array.getElem?_setIfInBounds, if_neg (by omega)]; exact J1
    have HB := JB.addSet (b := bo) (by omega) (.cells (chanC (.slice pw kl.length cw) sent TP (seenOf (metN top s 8) TP)).toArray 143)
    have HO : OBs (h.size + 1 + 1) 5 (J.setIfInBounds bo (.cells (chanC (.slice pw kl.length cw) sent TP (seenOf (metN top s 8) TP)).toArray 143)) (.slice pw kl.length cw) kl :=
      Jo.but (x := some bo) ⟨by simp, fun b hb hne => by rw [Array.getElem?_setIfInBounds, if_neg (fun e => hne (by rw [e]))]⟩ (fun b hb e => by have := Jlt b hb; simp at e; omega)
    rw [← hSS] at hx hx1 HB HO sl8 ⊢
    obtain ⟨j, hj⟩ : ∃ j : Nat, (n : Int) - (TP - 8) = j := ⟨((n : Int) - (TP - 8)).toNat, by omega⟩
    have hj2 : (n : Int) - TP + 8 = j := by omega
    rw [hj2, Int.toNat_natCast] at hsn
    have hj8 : (j : Int) < 8 := by omega
    have hlen := chanC_length (.slice pw kl.length cw) sent TP SS sl8
    obtain ⟨G, hG⟩ : ∃ G, G = J.setIfInBounds bo (.cells (chanC (.slice pw kl.length cw) sent TP SS).toArray 143) := ⟨_, rfl⟩
    rw [← hG] at hx hx1 HB HO ⊢
    have y5 : V.hc G ⟨bo, 2, none⟩ = some (.int .i64 TP) := by rw [hc_last hx]; rfl
    have w1 : wr1 G ⟨bo, 3 + j, none⟩ (.bool true) = some (G.setIfInBounds bo (.cells (chanC (.slice pw kl.length cw) sent TP (SS.set j true)).toArray 143)) := by
      rw [wr1_get hx, if_pos ⟨by rw [hlen]; omega, rfl⟩, chan_set]
    rw [hsn]
    have sl8' : (SS.set j true).length = 8 := by rw [List.length_set]; exact sl8
    obtain ⟨S2, hS2⟩ : ∃ S2, S2 = SS.set j true := ⟨_, rfl⟩
    rw [← hS2] at w1 sl8' ⊢
    have hlen2 := chanC_length (.slice pw kl.length cw) sent TP S2 sl8'
    have o2 := chanC_one (p := pw) (n := kl.length) (c := cw) sent TP S2
    have tk2 := take_len hlen2
    have hxb := cells_new (o := .cells (chanC (.slice pw kl.length cw) sent TP S2).toArray 143) hx
    have rb := rd_last hxb hlen2
    have hx1b : (G.setIfInBounds bo (.cells (chanC (.slice pw kl.length cw) sent TP S2).toArray 143))[h.size + 1]? = some (.cells chanZ.toArray 143) := by rw [Array.getElem?_setIfInBounds, if_neg (by omega)]; exact hx1
    have w2 := wrZ hx1b hlen2 o2
    have k5 := lt_of_get hx1
    have HO2 : OBs (h.size + 1 + 1) 5 (G.setIfInBounds bo (.cells (chanC (.slice pw kl.length cw) sent TP S2).toArray 143)) (.slice pw kl.length cw) kl :=
      HO.but (x := some bo) ⟨by simp, fun b hb hne => by rw [Array.getElem?_setIfInBounds, if_neg (fun e => hne (by rw [e]))]⟩ (fun b hb e => by have := Jlt b hb; simp at e; omega)
    have HB2 := (HB.addSet (b := bo) (by omega) (.cells (chanC (.slice pw kl.length cw) sent TP S2).toArray 143)).addSet (b := h.size + 1) (by omega) (.cells (chanC (.slice pw kl.length cw) sent TP S2).toArray 143)
    simp (config := {maxSteps := 2000000, implicitDefEqProofs := false}) only [go_sem, ↓reduceIte, Nat.reduceEqDiff, Nat.reduceAdd, Nat.reduceMul, Nat.reduceLeDiff, Nat.reduceLT, Nat.reduceSub, IntWalk.iteOmega, IntWalk.toNatUp, reduceCtorEq, Int.reduceLE, Int.reduceLT, Int.reduceToNat, Int.reduceNeg, f1, f2, f4, f5, f20, f21, hge, y5, hj, hj8, Int.toNat_natCast, w1, rb, w2, hlen2, tk2, k5]
    exact ⟨⟨_, rfl, (HO2.setLow (by omega) _).mono (by omega)⟩, HB2⟩
end Go.Proofs.YtnpacofabdgcdaaDoor
namespace Go.Proofs.YtnpacofabdgcdaaDoor
open Go Go.V
set_option linter.unusedSimpArgs false
set_option linter.unusedVariables false
set_option maxRecDepth 100000
theorem shifted4 {a b c d : Nat} (ha : a < 256) (hb : b < 256) (hc : c < 256) (hd : d < 256) : bitOp .or .i64 (bitOp .or .i64 (bitOp .or .i64 (shlOp .i64 (a : Int) 24) (shlOp .i64 (b : Int) 16)) (shlOp .i64 (c : Int) 8)) (d : Int) = ((16777216 * a + 65536 * b + 256 * c + d : Nat) : Int) := by
  have e1 : shlOp .i64 (a : Int) 24 = ((a * 16777216 : Nat) : Int) := shl_byte ha 24 (by omega)
  have e2 : shlOp .i64 (b : Int) 16 = ((b * 65536 : Nat) : Int) := shl_byte hb 16 (by omega)
  have e3 : shlOp .i64 (c : Int) 8 = ((c * 256 : Nat) : Int) := shl_byte hc 8 (by omega)
  have f1 : a * 16777216 ||| b * 65536 = a * 16777216 + b * 65536 := or_add (k := 24) (by omega) (by omega)
  have f2 : (a * 16777216 + b * 65536) ||| c * 256 = a * 16777216 + b * 65536 + c * 256 := or_add (k := 16) (by omega) (by omega)
  rw [e1, e2, e3, or_i64 _ _ (by omega) (by omega), f1, or_i64 _ _ (by omega) (by omega), f2, or_i64 _ _ (by omega) (by omega), or_add (k := 8) (by omega) (by omega)]
  congr 1; omega
def rec4 (l : List Nat) : Nat := 16777216 * l.getD 0 0 + 65536 * l.getD 1 0 + 256 * l.getD 2 0 + l.getD 3 0
theorem head4_rec4 {l : List Nat} (w : ∀ x ∈ l, x < 256) (hl : 4 ≤ l.length) : head4 (rec4 l) = l.take 4 := by
  match l, hl with
  | a :: b :: c :: d :: l, _ =>
    have h1 := w a (by simp)
    have h2 := w b (by simp)
    have h3 := w c (by simp)
    have h4 := w d (by simp)
    show [_, _, _, _] = [a, b, c, d]
    have e : rec4 (a :: b :: c :: d :: l) = 16777216 * a + 65536 * b + 256 * c + d := rfl
    rw [e]
    congr 1
    · omega
    · congr 1
      · omega
      · congr 1
        · omega
        · congr 1
          omega
theorem bound4 {a b c d : Nat} (ha : a < 256) (hb : b < 256) (hc : c < 256) (hd : d < 256) : 16777216 * a + 65536 * b + 256 * c + d < 4294967296 := by omega
theorem rec4_eq (l : List Nat) : rec4 l = 16777216 * l.getD 0 0 + 65536 * l.getD 1 0 + 256 * l.getD 2 0 + l.getD 3 0 := by unfold rec4; rfl
def takeErr (kl : List Nat) (sent top : Int) (s : List Bool) (rc : List Nat) : Int :=
  if chanErr kl.length sent top s ≠ 0 then 5 else if 2020 < rc.length then 1 else if rc.length < 20 then 13 else if 1073741824 ≤ rec4 rc then 2 else
  if metB top s (rec4 rc) = true then 7 else openErr kl (nonceS (head4 (rec4 rc))) (head4 (rec4 rc)) (rc.drop 4)
def takeS (kl rc : List Nat) : List Nat := openS kl (nonceS (head4 (rec4 rc))) (rc.drop 4)
def seenT (top : Int) (s : List Bool) (n : Nat) : List Bool := seenOf (metN top s 8 ++ [(n : Int)]) (max top (n + 1))
def TakeRes (B : Nat) (h' : Hp) (v' : Value) (kl : List Nat) (sent top : Int) (s : List Bool) (rc : List Nat) : Prop := ∃ cw w, v' = .tuple [cw, w, .int .i64 (takeErr kl sent top s rc)].toArray ∧
  ChanW B h' cw (takeErr kl sent top s rc) kl sent (max top (rec4 rc + 1)) (seenT top s (rec4 rc)) ∧ OBs B 5 h' w (if takeErr kl sent top s rc = 0 then takeS kl rc else [])
theorem metB_low {top : Int} {s : List Bool} {n : Nat} (h : ¬ metB top s n = true) : ¬ (n : Int) < top - 8 := by
  intro hlt
  apply h
  unfold metB
  rw [decide_eq_true hlt]; rfl
set_option maxHeartbeats 2000000 in
theorem lineTake_ok (T : World) (h : Hp) (k u : Value) (kl rc : List Nat) (sent top : Int) (s : List Bool) (hs : s.length = 8) (sk : Bs h k kl) (sp : Bs h u rc) (ck : Cap k) (cu : Cap u) :
    CallsH Tryd.prog T 112 #[.agg (chanC k sent top s).toArray, u] h fun v' h' => TakeRes h.size h' v' kl sent top s rc ∧ Bel h.size h h' := by
  have wr' := sp.byte
  obtain ⟨p, c, rfl, _⟩ := sk.open
  obtain ⟨q, d, rfl, hqc⟩ := sp.opend
  have cu : rc.length ≤ d := cu
  have hC11 := chanC_length (.slice p kl.length c) sent top s hs
  have tk := take_len hC11
  refine CallsH.of_code2 (args := [_, _]) Tryd.func112 rfl rfl rfl rfl ?_
  simp (config := {maxSteps := 2000000, implicitDefEqProofs := false}) only [go_sem, ↓reduceIte, Nat.reduceEqDiff, Nat.reduceAdd, Nat.reduceMul, Nat.reduceLeDiff, Nat.reduceLT, Nat.reduceSub, IntWalk.iteOmega, IntWalk.toNatUp, reduceCtorEq, Int.reduceLE, Int.reduceLT, Int.reduceToNat, Int.reduceNeg, hC11, tk]
  have hpush : Bel h.size h ((h.push (.cells (chanC (.slice p kl.length c) sent top s).toArray 143)).push (.cells chanZ.toArray 143)) := by (repeat' (first | exact Bel.refl _ _ | assumption | refine Bel.add ?_ _ | refine Bel.addSet ?_ (by first | omega | (simp; omega)) _ | refine Bel.trans (by assumption) ?_))
  refine (lineCheck_ok T _ p kl.length c sent top s hs).use ?_
  rintro _ g1 ⟨rfl, b1⟩
  have x0 : g1[h.size]? = some (.cells (chanC (.slice p kl.length c) sent top s).toArray 143) := b1.get (by simp only [Array.size_push]; omega) (by simp only [Array.getElem?_push, Array.size_push, IntWalk.iteOmega, ↓reduceIte])
  have x1 : g1[h.size + 1]? = some (.cells chanZ.toArray 143) := b1.get (by simp only [Array.size_push]; omega) (by simp only [Array.getElem?_push, Array.size_push, IntWalk.iteOmega, ↓reduceIte] <;> rfl)
  have hB1 : Bel h.size h g1 := hpush.trans (b1.mono (by simp; omega))
  have z1 := lt_of_get x1
  clear b1 hpush
  have hse : takeErr kl sent top s rc = if chanErr kl.length sent top s ≠ 0 then 5 else if 2020 < rc.length then 1 else if rc.length < 20 then 13 else if 1073741824 ≤ rec4 rc then 2 else
  if metB top s (rec4 rc) = true then 7 else openErr kl (nonceS (head4 (rec4 rc))) (head4 (rec4 rc)) (rc.drop 4) := rfl
  unfold TakeRes ChanW takeS
  have hbe : rec4 rc = 16777216 * rc.getD 0 0 + 65536 * rc.getD 1 0 + 256 * rc.getD 2 0 + rc.getD 3 0 := rec4_eq rc
  have h4 : 4 ≤ rc.length → head4 (rec4 rc) = rc.take 4 := fun hl => head4_rec4 wr' hl
  obtain ⟨E, hE⟩ : ∃ E, E = takeErr kl sent top s rc := ⟨_, rfl⟩
  rw [← hE] at hse ⊢
  clear hE
  obtain ⟨n, hn⟩ : ∃ n, n = rec4 rc := ⟨_, rfl⟩
  rw [← hn] at hse hbe h4 ⊢
  clear hn
  have wz : ∀ g : Hp, g[h.size + 1]? = some (.cells chanZ.toArray 143) → wr g ⟨h.size + 1, 0, none⟩ [.slice none 0 0, .int .i64 0, .int .i64 0, .bool false, .bool false, .bool false, .bool false, .bool false, .bool false, .bool false, .bool false] = some (g.setIfInBounds (h.size + 1) (.cells [.slice none 0 0, .int .i64 0, .int .i64 0, .bool false, .bool false, .bool false, .bool false, .bool false, .bool false, .bool false, .bool false].toArray 143)) := fun g hg => wrZ hg rfl rfl
  have hBz : ∀ g : Hp, Bel h.size h g → Bel h.size h (g.setIfInBounds (h.size + 1) (.cells #[.slice none 0 0, .int .i64 0, .int .i64 0, .bool false, .bool false, .bool false, .bool false, .bool false, .bool false, .bool false, .bool false] 143)) := fun g hg => hg.addSet (by omega) _
  have wz1 := wz g1 x1
  by_cases e0 : chanErr kl.length sent top s = 0
  · obtain ⟨hk, s0, s1, t0, t1⟩ := chanErr_zero e0
    rw [if_neg (by simp [e0])] at hse
    by_cases hm : 2020 < rc.length
    · rw [if_pos hm] at hse
      have hm' : 2020 < (rc.length : Int) := by omega
      simp (config := {maxSteps := 2000000, implicitDefEqProofs := false}) only [go_sem, ↓reduceIte, Nat.reduceEqDiff, Nat.reduceAdd, Nat.reduceMul, Nat.reduceLeDiff, Nat.reduceLT, Nat.reduceSub, IntWalk.iteOmega, IntWalk.toNatUp, reduceCtorEq, Int.reduceLE, Int.reduceLT, Int.reduceToNat, Int.reduceNeg, e0, hm', wz1, z1]
      exact ⟨⟨_, _, by rw [hse]; rfl, ⟨_, rfl, OBs.nil _ _ _⟩, OBs.nil _ _ _⟩, hBz _ hB1⟩
    · rw [if_neg hm] at hse
      have hm' : ¬ 2020 < (rc.length : Int) := by omega
      by_cases hm2 : rc.length < 20
      · rw [if_pos hm2] at hse
        have hm2' : (rc.length : Int) < 20 := by omega
        simp (config := {maxSteps := 2000000, implicitDefEqProofs := false}) only [go_sem, ↓reduceIte, Nat.reduceEqDiff, Nat.reduceAdd, Nat.reduceMul, Nat.reduceLeDiff, Nat.reduceLT, Nat.reduceSub, IntWalk.iteOmega, IntWalk.toNatUp, reduceCtorEq, Int.reduceLE, Int.reduceLT, Int.reduceToNat, Int.reduceNeg, e0, hm', hm2', wz1, z1]
        exact ⟨⟨_, _, by rw [hse]; rfl, ⟨_, rfl, OBs.nil _ _ _⟩, OBs.nil _ _ _⟩, hBz _ hB1⟩
      · rw [if_neg hm2] at hse
        have hm2' : ¬ (rc.length : Int) < 20 := by omega
        obtain ⟨bb, oo, rfl, hbb, hqc⟩ := hqc (by intro e; rw [e] at hm2; simp at hm2)
        have u0 : V.hc g1 ⟨bb, oo + 0, none⟩ = some (.int .u8 (rc.getD 0 0 : Nat)) := by rw [hB1.hc (by exact hbb)]; exact hqc 0 (by omega)
        have u1 : V.hc g1 ⟨bb, oo + 1, none⟩ = some (.int .u8 (rc.getD 1 0 : Nat)) := by rw [hB1.hc (by exact hbb)]; exact hqc 1 (by omega)
        have u2 : V.hc g1 ⟨bb, oo + 2, none⟩ = some (.int .u8 (rc.getD 2 0 : Nat)) := by rw [hB1.hc (by exact hbb)]; exact hqc 2 (by omega)
        have u3 : V.hc g1 ⟨bb, oo + 3, none⟩ = some (.int .u8 (rc.getD 3 0 : Nat)) := by rw [hB1.hc (by exact hbb)]; exact hqc 3 (by omega)
        rw [Nat.add_zero] at u0
        have w0 := getD_byte wr' 0
        have w1 := getD_byte wr' 1
        have w2 := getD_byte wr' 2
        have w3 := getD_byte wr' 3
        have h4 := h4 (by omega)
        have s4 := Bs_take sp (m := 4) (by omega) 4
        rw [← h4] at s4
        generalize rc.getD 0 0 = r0 at *
        generalize rc.getD 1 0 = r1 at *
        generalize rc.getD 2 0 = r2 at *
        generalize rc.getD 3 0 = r3 at *
        have hseU : Unit → _ := fun _ => hse
        clear hse
        have hn32 : n < 4294967296 := by rw [hbe]; exact bound4 w0 w1 w2 w3
        have d4 : (4 : Int) ≤ d := by omega
        have sh : Unit → bitOp .or .i64 (bitOp .or .i64 (bitOp .or .i64 (shlOp .i64 (r0 : Int) 24) (shlOp .i64 (r1 : Int) 16)) (shlOp .i64 (r2 : Int) 8)) (r3 : Int) = (n : Int) := fun _ => by rw [shifted4 w0 w1 w2 w3, hbe]
        clear hbe
        simp (config := {maxSteps := 2000000, implicitDefEqProofs := false}) only [go_sem, ↓reduceIte, Nat.reduceEqDiff, Nat.reduceAdd, Nat.reduceMul, Nat.reduceLeDiff, Nat.reduceLT, Nat.reduceSub, IntWalk.iteOmega, IntWalk.toNatUp, reduceCtorEq, Int.reduceLE, Int.reduceLT, Int.reduceToNat, Int.reduceNeg, e0, hm', hm2', d4]
        refine VS.mono (N := fun F g => g1 = g ∧ F 1 = .slice (some ⟨bb, oo, none⟩) rc.length d ∧ F 2 = .pointer (some ⟨h.size, 0, none⟩) ∧ F 4 = .pointer (some ⟨h.size + 1, 0, none⟩) ∧ F 8 = .slice (some ⟨bb, oo, none⟩) 4 4 ∧ F 9 = .int .i64 n) ?_ ?_ (fun _ _ _ h => h) (fun _ _ h => h)
        · refine VS.q mixed (by kernel_rfl) ?_
          simp (config := {maxSteps := 2000000, implicitDefEqProofs := false}) only [go_sem, ↓reduceIte, Nat.reduceEqDiff, Nat.reduceAdd, Nat.reduceMul, Nat.reduceLeDiff, Nat.reduceLT, Nat.reduceSub, IntWalk.iteOmega, IntWalk.toNatUp, reduceCtorEq, Int.reduceLE, Int.reduceLT, Int.reduceToNat, Int.reduceNeg, u0, u1, u2, u3]
          exact congrArg _ (sh ())
        clear sh w0 w1 w2 w3
        have hse := hseU ()
        clear hseU
        rintro F _ ⟨rfl, f1, f2, f4, f8, f9⟩
        by_cases hb : 1073741824 ≤ n
        · rw [if_pos hb] at hse
          have hb' : (1073741824 : Int) ≤ (n : Int) := by clear hse; omega
          simp (config := {maxSteps := 2000000, implicitDefEqProofs := false}) only [go_sem, ↓reduceIte, Nat.reduceEqDiff, Nat.reduceAdd, Nat.reduceMul, Nat.reduceLeDiff, Nat.reduceLT, Nat.reduceSub, IntWalk.iteOmega, IntWalk.toNatUp, reduceCtorEq, Int.reduceLE, Int.reduceLT, Int.reduceToNat, Int.reduceNeg, f1, f2, f4, f8, f9, hb', wz1, z1]
          exact ⟨⟨_, _, by rw [hse]; rfl, ⟨_, rfl, OBs.nil _ _ _⟩, OBs.nil _ _ _⟩, hBz _ hB1⟩
        · rw [if_neg hb] at hse
          have hb' : ¬ (1073741824 : Int) ≤ (n : Int) := by clear hse; omega
          have rC : rd g1 ⟨h.size, 0, none⟩ 11 = some (chanC (.slice p kl.length c) sent top s) := rd_last x0 hC11
          simp (config := {maxSteps := 2000000, implicitDefEqProofs := false}) only [go_sem, ↓reduceIte, Nat.reduceEqDiff, Nat.reduceAdd, Nat.reduceMul, Nat.reduceLeDiff, Nat.reduceLT, Nat.reduceSub, IntWalk.iteOmega, IntWalk.toNatUp, reduceCtorEq, Int.reduceLE, Int.reduceLT, Int.reduceToNat, Int.reduceNeg, f1, f2, f4, f8, f9, hb', rC]
          refine (met_ok T _ _ sent top s n hs t0 t1 (by clear hse; omega)).use ?_
          rintro _ g2 ⟨rfl, b2⟩
          have x02 := b2.get (Nat.lt_of_succ_lt z1) x0
          have x12 := b2.get z1 x1
          have z2 := b2.size
          have hB2 := hB1.trans (b2.mono hB1.size)
          have wz2 := wz g2 x12
          have zl2 := lt_of_get x12
          by_cases hmet : metB top s n = true
          · rw [if_pos hmet] at hse
            simp (config := {maxSteps := 2000000, implicitDefEqProofs := false}) only [go_sem, ↓reduceIte, Nat.reduceEqDiff, Nat.reduceAdd, Nat.reduceMul, Nat.reduceLeDiff, Nat.reduceLT, Nat.reduceSub, IntWalk.iteOmega, IntWalk.toNatUp, reduceCtorEq, Int.reduceLE, Int.reduceLT, Int.reduceToNat, Int.reduceNeg, f1, f2, f4, f8, f9, hmet, wz2, zl2]
            exact ⟨⟨_, _, by rw [hse]; rfl, ⟨_, rfl, OBs.nil _ _ _⟩, OBs.nil _ _ _⟩, hBz _ hB2⟩
          · rw [if_neg hmet] at hse
            have hlow := metB_low hmet
            have hmet' : metB top s n = false := by simpa using hmet
            have y0 : V.hc g2 ⟨h.size, 0, none⟩ = some (.slice p kl.length c) := by rw [hc_last x02]; rfl
            have zl0 := lt_of_get x02
            have l4 : (head4 n).length = 4 := rfl
            have l12 : (nonceS (head4 n)).length ≤ 1000 := by simp [nonceS, head4]
            have sbk := Bs_back sp rfl (k := 4) (by omega) cu (d - 4)
            have hle4 : (4 : Int) ≤ rc.length := by clear hse; omega
            simp (config := {maxSteps := 2000000, implicitDefEqProofs := false}) only [go_sem, ↓reduceIte, Nat.reduceEqDiff, Nat.reduceAdd, Nat.reduceMul, Nat.reduceLeDiff, Nat.reduceLT, Nat.reduceSub, IntWalk.iteOmega, IntWalk.toNatUp, reduceCtorEq, Int.reduceLE, Int.reduceLT, Int.reduceToNat, Int.reduceNeg, f1, f2, f4, f8, f9, hmet']
            refine VS.w (g2.size) [] (.q 0 (.q 1 (.q 2 (.q 4 (.q 5 (.q 6 (.s 3 (.s 7 (.q 8 (.q 9 (.q 10 (.q 11 (.q 12 .nil))))))))))))) mixed (by kernel_rfl) ?_
            simp (config := {maxSteps := 2000000, implicitDefEqProofs := false}) only [go_sem, ↓reduceIte, Nat.reduceEqDiff, Nat.reduceAdd, Nat.reduceMul, Nat.reduceLeDiff, Nat.reduceLT, Nat.reduceSub, IntWalk.iteOmega, IntWalk.toNatUp, reduceCtorEq, Int.reduceLE, Int.reduceLT, Int.reduceToNat, Int.reduceNeg, f1, f2, f4, f8, f9, y0, zl0, hle4, vSlcL_sub]
            refine (lineNonce_ok T _ _ _ (s4.bel hB2) (by rw [l4]; decide)).use ?_
            rintro vn g3 ⟨on, b3⟩
            have z3 := b3.size
            have b3T : Bel g2.size g2 g3 = True := eq_true b3
            have hB3 := hB2.trans (b3.mono hB2.size)
            simp (config := {maxSteps := 2000000, implicitDefEqProofs := false}) only [go_sem, ↓reduceIte, Nat.reduceEqDiff, Nat.reduceAdd, Nat.reduceMul, Nat.reduceLeDiff, Nat.reduceLT, Nat.reduceSub, IntWalk.iteOmega, IntWalk.toNatUp, reduceCtorEq, Int.reduceLE, Int.reduceLT, Int.reduceToNat, Int.reduceNeg, f1, f2, f4, f8, f9, b3T]
            refine (open_ok T _ _ _ _ _ kl (nonceS (head4 n)) (head4 n) (rc.drop 4) (sk.bel hB3) on.bs (s4.bel hB3) (sbk.bel hB3) ck on.cap (show rc.length - 4 ≤ d - 4 by omega)).use ?_
            rintro _ g4 ⟨⟨w4, rfl, o4⟩, b4⟩
            have z4 := b4.size
            have b34 : Bel g2.size g2 g4 := b3.trans (b4.mono z3)
            have b34T : Bel g2.size g2 g4 = True := eq_true b34
            rw [← hse] at o4 ⊢
            have x14 := b34.get zl2 x12
            have x04 := b34.get zl0 x02
            have hB4 := hB2.trans (b34.mono hB2.size)
            have wz4 := wz g4 x14
            have zl4 := lt_of_get x14
            clear hse
            by_cases hE0 : E = 0
            · subst hE0
              rw [if_pos rfl] at o4
              have rC4 : rd g4 ⟨h.size, 0, none⟩ 11 = some (chanC (.slice p kl.length c) sent top s) := rd_last x04 hC11
              simp (config := {maxSteps := 2000000, implicitDefEqProofs := false}) only [go_sem, ↓reduceIte, Nat.reduceEqDiff, Nat.reduceAdd, Nat.reduceMul, Nat.reduceLeDiff, Nat.reduceLT, Nat.reduceSub, IntWalk.iteOmega, IntWalk.toNatUp, reduceCtorEq, Int.reduceLE, Int.reduceLT, Int.reduceToNat, Int.reduceNeg, f1, f2, f4, f8, f9, b34T, rC4]
              refine (with_ok T _ _ kl sent top s n hs (sk.bel hB4) (by omega) t0 t1 (by omega) hlow).use ?_
              rintro _ g5 ⟨⟨w5, rfl, o5⟩, b5⟩
              have x15 := b5.get zl4 x14
              have z5 := b5.size
              obtain ⟨pw, cw, rfl, _⟩ := o5.open
              have l8 : (seenT top s n).length = 8 := seenOf_length _ _
              have hD11 := chanC_length (.slice pw kl.length cw) sent (max top ((n : Int) + 1)) (seenT top s n) l8
              have oD := chanC_one (p := pw) (n := kl.length) (c := cw) sent (max top ((n : Int) + 1)) (seenT top s n)
              have tkD := take_len hD11
              have wD := wrZ x15 hD11 oD
              have zl5 := lt_of_get x15
              rw [show seenOf (metN top s 8 ++ [(n : Int)]) (max top ((n : Int) + 1)) = seenT top s n from rfl]
              have o4' := o4.bel b5 (Nat.le_refl _)
              obtain ⟨C5, hC5⟩ : ∃ C5, C5 = chanC (.slice pw kl.length cw) sent (max top ((n : Int) + 1)) (seenT top s n) := ⟨_, rfl⟩
              rw [← hC5] at hD11 oD tkD wD ⊢
              simp (config := {maxSteps := 2000000, implicitDefEqProofs := false}) only [go_sem, ↓reduceIte, Nat.reduceEqDiff, Nat.reduceAdd, Nat.reduceMul, Nat.reduceLeDiff, Nat.reduceLT, Nat.reduceSub, IntWalk.iteOmega, IntWalk.toNatUp, reduceCtorEq, Int.reduceLE, Int.reduceLT, Int.reduceToNat, Int.reduceNeg, f1, f2, f4, f8, f9, b34T, wD, hD11, tkD, zl5]
              exact ⟨⟨_, _, rfl, ⟨_, by rw [hC5], (o5.setLow (by omega) _).mono (by omega)⟩, (o4'.setLow (by omega) _).mono (by omega)⟩, (hB4.trans (b5.mono hB4.size)).addSet (by omega) _⟩
            · rw [if_neg hE0] at o4
              simp (config := {maxSteps := 2000000, implicitDefEqProofs := false}) only [go_sem, ↓reduceIte, Nat.reduceEqDiff, Nat.reduceAdd, Nat.reduceMul, Nat.reduceLeDiff, Nat.reduceLT, Nat.reduceSub, IntWalk.iteOmega, IntWalk.toNatUp, reduceCtorEq, Int.reduceLE, Int.reduceLT, Int.reduceToNat, Int.reduceNeg, f1, f2, f4, f8, f9, b34T, hE0, wz4, zl4]
              exact ⟨⟨_, _, rfl, ⟨_, rfl, OBs.nil _ _ _⟩, OBs.nil _ _ _⟩, hBz _ hB4⟩
  · rw [if_pos e0] at hse
    have e5 := (chanErr_five kl.length sent top s).resolve_left e0
    simp (config := {maxSteps := 2000000, implicitDefEqProofs := false}) only [go_sem, ↓reduceIte, Nat.reduceEqDiff, Nat.reduceAdd, Nat.reduceMul, Nat.reduceLeDiff, Nat.reduceLT, Nat.reduceSub, IntWalk.iteOmega, IntWalk.toNatUp, reduceCtorEq, Int.reduceLE, Int.reduceLT, Int.reduceToNat, Int.reduceNeg, e5, wz1, z1]
    exact ⟨⟨_, _, by rw [hse]; rfl, ⟨_, rfl, OBs.nil _ _ _⟩, OBs.nil _ _ _⟩, hBz _ hB1⟩
end Go.Proofs.YtnpacofabdgcdaaDoor
namespace Go.Proofs.YtnpacofabdgcdaaDoor
open Go Go.V
set_option linter.unusedSimpArgs false
set_option linter.unusedVariables false
set_option maxRecDepth 100000
def insA (n : Int) (a : List Int × Bool) (x : Int) : List Int × Bool := ((if a.2 = false ∧ n < x then a.1 ++ [n] else a.1) ++ [x], a.2 || decide (n < x))
def insR (n : Int) (l : List Int) : Nat → List Int × Bool
  | 0 => ([], false)
  | i + 1 => insA n (insR n l i) (l.getD i 0)
def insF (n : Int) (l : List Int) : List Int := if (insR n l l.length).2 = true then (insR n l l.length).1 else (insR n l l.length).1 ++ [n]
theorem getD_at {l : List Int} {i : Nat} (hi : i < l.length) : l.getD i 0 = l[i] := by rw [List.getD_eq_getElem?_getD, List.getElem?_eq_getElem hi]; rfl
theorem insR_len (n : Int) (l : List Int) : ∀ i, (insR n l i).1.length ≤ 2 * i
  | 0 => by simp [insR]
  | i + 1 => by
    have := insR_len n l i
    rw [insR, insA]
    split
    · simp; omega
    · simp; omega
theorem insR_mem {n : Int} {l : List Int} : ∀ i, i ≤ l.length → ∀ x, x ∈ (insR n l i).1 ↔ x ∈ l.take i ∨ ((insR n l i).2 = true ∧ x = n)
  | 0, _, x => by simp [insR]
  | i + 1, hi, x => by
    have ih := insR_mem (n := n) (l := l) i (by omega) x
    have e := getD_at (l := l) (i := i) (by omega)
    rw [insR, insA, take_snoc l i (by omega), ← e]
    obtain ⟨a, ha⟩ : ∃ a, a = insR n l i := ⟨_, rfl⟩
    obtain ⟨y, hy⟩ : ∃ y, y = l.getD i 0 := ⟨_, rfl⟩
    rw [← ha] at ih
    rw [← ha, ← hy]
    obtain ⟨a1, a2⟩ := a
    simp only at ih ⊢
    by_cases h1 : a2 = false ∧ n < y
    · rw [if_pos h1]
      obtain ⟨h1, h2⟩ := h1
      subst h1
      simp only [List.mem_append, List.mem_singleton, ih, Bool.false_eq_true, false_and, or_false, Bool.false_or, decide_eq_true h2, true_and]
      constructor
      · rintro ((h | h) | h)
        · exact .inl (.inl h)
        · exact .inr h
        · exact .inl (.inr h)
      · rintro ((h | h) | h)
        · exact .inl (.inl h)
        · exact .inr h
        · exact .inl (.inr h)
    · rw [if_neg h1]
      simp only [List.mem_append, List.mem_singleton, ih, Bool.or_eq_true, decide_eq_true_eq]
      constructor
      · rintro ((h | h) | h)
        · exact .inl (.inl h)
        · exact .inr ⟨.inl h.1, h.2⟩
        · exact .inl (.inr h)
      · rintro ((h | h) | ⟨h | h, h'⟩)
        · exact .inl (.inl h)
        · exact .inr h
        · exact .inl (.inr ⟨h, h'⟩)
        · refine .inl (.inr ⟨?_, h'⟩)
          cases a2 with
          | true => rfl
          | false => exact (h1 ⟨rfl, h⟩).elim
theorem insR_done {n : Int} {l : List Int} : ∀ i, i ≤ l.length → ((insR n l i).2 = true ↔ ∃ x ∈ l.take i, n < x)
  | 0, _ => by simp [insR]
  | i + 1, hi => by
    have ih := insR_done (n := n) (l := l) i (by omega)
    have e := getD_at (l := l) (i := i) (by omega)
    rw [insR, insA, take_snoc l i (by omega), ← e]
    simp only [Bool.or_eq_true, decide_eq_true_eq, ih, List.mem_append, List.mem_singleton]
    constructor
    · rintro (⟨x, hx, h⟩ | h)
      · exact ⟨x, .inl hx, h⟩
      · exact ⟨_, .inr rfl, h⟩
    · rintro ⟨x, hx | hx, h⟩
      · exact .inl ⟨x, hx, h⟩
      · subst hx; exact .inr h
theorem insR_last {n : Int} {l : List Int} (i : Nat) : topOf (insR n l (i + 1)).1 = l.getD i 0 + 1 := by
  rw [insR, insA]
  unfold topOf
  rw [List.getLast?_append]; rfl
theorem topOf_snoc (l : List Int) (x : Int) : topOf (l ++ [x]) = x + 1 := by
  unfold topOf
  rw [List.getLast?_append]; rfl
theorem topOf_mem {l : List Int} (hne : l ≠ []) : ∃ x ∈ l, topOf l = x + 1 := by
  rw [← topOf_last l hne]
  have hp := List.length_pos_iff.2 hne
  exact ⟨l.getD (l.length - 1) 0, by rw [getD_at (by omega)]; exact List.getElem_mem _, rfl⟩
theorem insF_mem {n : Int} {l : List Int} (x : Int) : x ∈ insF n l ↔ x ∈ l ∨ x = n := by
  have h := insR_mem (n := n) (l := l) l.length (Nat.le_refl _) x
  rw [List.take_length] at h
  unfold insF
  split
  · rename_i hd
    rw [h, hd]; simp
  · rename_i hd
    rw [List.mem_append, h, List.mem_singleton]
    constructor
    · rintro ((h | h) | h)
      · exact .inl h
      · exact .inr h.2
      · exact .inr h
    · rintro (h | h)
      · exact .inl (.inl h)
      · exact .inr h
theorem insF_top {n : Int} {l : List Int} (hn : 0 ≤ n) (hb : ∀ x ∈ l, x < topOf l) (h0 : l = [] → topOf l = 0) : topOf (insF n l) = max (topOf l) (n + 1) := by
  have hd := insR_done (n := n) (l := l) l.length (Nat.le_refl _)
  rw [List.take_length] at hd
  unfold insF
  split
  · rename_i h
    obtain ⟨x, hx, hlt⟩ := hd.1 h
    have hxb := hb x hx
    have hne : l ≠ [] := List.ne_nil_of_mem hx
    have hp := List.length_pos_iff.2 hne
    obtain ⟨m, hm⟩ : ∃ m, l.length = m + 1 := ⟨l.length - 1, by omega⟩
    have hl := topOf_last l hne
    rw [hm] at hl ⊢
    rw [insR_last]
    simp only [Nat.add_sub_cancel] at hl
    omega
  · rename_i h
    rw [topOf_snoc]
    by_cases hne : l = []
    · rw [h0 hne]; omega
    · obtain ⟨y, hy, e⟩ := topOf_mem hne
      have : ¬ n < y := fun hlt => h (hd.2 ⟨y, hy, hlt⟩)
      omega
theorem seenOf_congr {a b : List Int} (h : ∀ x, x ∈ a ↔ x ∈ b) (t : Int) : seenOf a t = seenOf b t := by
  unfold seenOf
  apply List.map_congr_left
  intro k _
  rw [Bool.eq_iff_iff, List.any_eq_true, List.any_eq_true]
  constructor
  · rintro ⟨x, hx, e⟩; exact ⟨x, (h x).1 hx, e⟩
  · rintro ⟨x, hx, e⟩; exact ⟨x, (h x).2 hx, e⟩
theorem metB_mem {top : Int} {s : List Bool} {n : Nat} (hl : ¬ (n : Int) < top - 8) : metB top s n = true ↔ (n : Int) ∈ metN top s 8 := by
  unfold metB
  rw [decide_eq_false hl, Bool.false_or, Bool.and_eq_true, decide_eq_true_eq, metN_mem]
  constructor
  · rintro ⟨h1, h2⟩
    exact ⟨((n : Int) - (top - 8)).toNat, by omega, h2, by omega⟩
  · rintro ⟨i, h1, h2, h3⟩
    have e : ((n : Int) - (top - 8)).toNat = i := by omega
    rw [e]
    exact ⟨by omega, h2⟩
theorem metB_under {top : Int} {s : List Bool} {n : Nat} (hl : (n : Int) < top - 8) : metB top s n = true := by
  unfold metB; rw [decide_eq_true hl]; rfl
end Go.Proofs.YtnpacofabdgcdaaDoor
namespace Go.Proofs.YtnpacofabdgcdaaDoor
open Go Go.V
set_option linter.unusedSimpArgs false
set_option linter.unusedVariables false
set_option maxRecDepth 100000
set_option maxHeartbeats 2000000 in
theorem takenFrom_ok (T : World) (h : Hp) (k u : Value) (kl rc : List Nat) (sent top : Int) (s : List Bool) (hs : s.length = 8) (sk : Bs h k kl) (sp : Bs h u rc) (cu : Cap u) (hk0 : kl.length ≤ 140737488355328) (hsent : -9223372036854775808 ≤ sent ∧ sent ≤ 9223372036854775807) :
    CallsH Tryd.prog T 114 #[.agg (chanC k sent top s).toArray, u] h fun v' h' => TakeRes h.size h' v' kl sent top s rc ∧ Bel h.size h h' := by
  have wr' := sp.byte
  obtain ⟨p, c, rfl, _⟩ := sk.open
  obtain ⟨q, d, rfl, hqc⟩ := sp.opend
  have cu : rc.length ≤ d := cu
  have hC11 := chanC_length (.slice p kl.length c) sent top s hs
  have tk := take_len hC11
  refine CallsH.of_code2 (args := [_, _]) Tryd.func114 rfl rfl rfl rfl ?_
  simp (config := {maxSteps := 2000000, implicitDefEqProofs := false}) only [go_sem, ↓reduceIte, Nat.reduceEqDiff, Nat.reduceAdd, Nat.reduceMul, Nat.reduceLeDiff, Nat.reduceLT, Nat.reduceSub, IntWalk.iteOmega, IntWalk.toNatUp, reduceCtorEq, Int.reduceLE, Int.reduceLT, Int.reduceToNat, Int.reduceNeg, hC11, tk]
  have hpush : Bel h.size h ((h.push (.cells (chanC (.slice p kl.length c) sent top s).toArray 143)).push (.cells chanZ.toArray 143)) := by (repeat' (first | exact Bel.refl _ _ | assumption | refine Bel.add ?_ _ | refine Bel.addSet ?_ (by first | omega | (simp; omega)) _ | refine Bel.trans (by assumption) ?_))
  refine (channelFault_ok T _ _ kl sent top s hs (sk.bel hpush) hk0 hsent).use ?_
  rintro _ g1 ⟨rfl, b1⟩
  have x0 : g1[h.size]? = some (.cells (chanC (.slice p kl.length c) sent top s).toArray 143) := b1.get (by simp only [Array.size_push]; omega) (by simp only [Array.getElem?_push, Array.size_push, IntWalk.iteOmega, ↓reduceIte])
  have x1 : g1[h.size + 1]? = some (.cells chanZ.toArray 143) := b1.get (by simp only [Array.size_push]; omega) (by simp only [Array.getElem?_push, Array.size_push, IntWalk.iteOmega, ↓reduceIte] <;> rfl)
  have hB1 : Bel h.size h g1 := hpush.trans (b1.mono (by simp; omega))
  have z1 := lt_of_get x1
  clear b1 hpush
  have hse : takeErr kl sent top s rc = if chanErr kl.length sent top s ≠ 0 then 5 else if 2020 < rc.length then 1 else if rc.length < 20 then 13 else if 1073741824 ≤ rec4 rc then 2 else
  if metB top s (rec4 rc) = true then 7 else openErr kl (nonceS (head4 (rec4 rc))) (head4 (rec4 rc)) (rc.drop 4) := rfl
  unfold TakeRes ChanW takeS
  have hbe : rec4 rc = 16777216 * rc.getD 0 0 + 65536 * rc.getD 1 0 + 256 * rc.getD 2 0 + rc.getD 3 0 := rec4_eq rc
  obtain ⟨E, hE⟩ : ∃ E, E = takeErr kl sent top s rc := ⟨_, rfl⟩
  rw [← hE] at hse ⊢
  clear hE
  obtain ⟨n, hn⟩ : ∃ n, n = rec4 rc := ⟨_, rfl⟩
  rw [← hn] at hse hbe ⊢
  clear hn
  have wz : ∀ g : Hp, g[h.size + 1]? = some (.cells chanZ.toArray 143) → wr g ⟨h.size + 1, 0, none⟩ [.slice none 0 0, .int .i64 0, .int .i64 0, .bool false, .bool false, .bool false, .bool false, .bool false, .bool false, .bool false, .bool false] = some (g.setIfInBounds (h.size + 1) (.cells [.slice none 0 0, .int .i64 0, .int .i64 0, .bool false, .bool false, .bool false, .bool false, .bool false, .bool false, .bool false, .bool false].toArray 143)) := fun g hg => wrZ hg rfl rfl
  have hBz : ∀ g : Hp, Bel h.size h g → Bel h.size h (g.setIfInBounds (h.size + 1) (.cells #[.slice none 0 0, .int .i64 0, .int .i64 0, .bool false, .bool false, .bool false, .bool false, .bool false, .bool false, .bool false, .bool false] 143)) := fun g hg => hg.addSet (by omega) _
  have wz1 := wz g1 x1
  by_cases e0 : chanErr kl.length sent top s = 0
  · obtain ⟨hk, s0, s1, t0, t1⟩ := chanErr_zero e0
    rw [if_neg (by simp [e0])] at hse
    by_cases hm : 2020 < rc.length
    · rw [if_pos hm] at hse
      have hm' : 2020 < (rc.length : Int) := by omega
      simp (config := {maxSteps := 2000000, implicitDefEqProofs := false}) only [go_sem, ↓reduceIte, Nat.reduceEqDiff, Nat.reduceAdd, Nat.reduceMul, Nat.reduceLeDiff, Nat.reduceLT, Nat.reduceSub, IntWalk.iteOmega, IntWalk.toNatUp, reduceCtorEq, Int.reduceLE, Int.reduceLT, Int.reduceToNat, Int.reduceNeg, e0, hm', wz1, z1]
      exact ⟨⟨_, _, by rw [hse]; rfl, ⟨_, rfl, OBs.nil _ _ _⟩, OBs.nil _ _ _⟩, hBz _ hB1⟩
    · rw [if_neg hm] at hse
      have hm' : ¬ 2020 < (rc.length : Int) := by omega
      by_cases hm2 : rc.length < 20
      · rw [if_pos hm2] at hse
        have hm2' : (rc.length : Int) < 20 := by omega
        simp (config := {maxSteps := 2000000, implicitDefEqProofs := false}) only [go_sem, ↓reduceIte, Nat.reduceEqDiff, Nat.reduceAdd, Nat.reduceMul, Nat.reduceLeDiff, Nat.reduceLT, Nat.reduceSub, IntWalk.iteOmega, IntWalk.toNatUp, reduceCtorEq, Int.reduceLE, Int.reduceLT, Int.reduceToNat, Int.reduceNeg, e0, hm', hm2', wz1, z1]
        exact ⟨⟨_, _, by rw [hse]; rfl, ⟨_, rfl, OBs.nil _ _ _⟩, OBs.nil _ _ _⟩, hBz _ hB1⟩
      · rw [if_neg hm2] at hse
        have hm2' : ¬ (rc.length : Int) < 20 := by omega
        obtain ⟨bb, oo, rfl, hbb, hqc⟩ := hqc (by intro e; rw [e] at hm2; simp at hm2)
        have u0 : V.hc g1 ⟨bb, oo + 0, none⟩ = some (.int .u8 (rc.getD 0 0 : Nat)) := by rw [hB1.hc (by exact hbb)]; exact hqc 0 (by omega)
        have u1 : V.hc g1 ⟨bb, oo + 1, none⟩ = some (.int .u8 (rc.getD 1 0 : Nat)) := by rw [hB1.hc (by exact hbb)]; exact hqc 1 (by omega)
        have u2 : V.hc g1 ⟨bb, oo + 2, none⟩ = some (.int .u8 (rc.getD 2 0 : Nat)) := by rw [hB1.hc (by exact hbb)]; exact hqc 2 (by omega)
        have u3 : V.hc g1 ⟨bb, oo + 3, none⟩ = some (.int .u8 (rc.getD 3 0 : Nat)) := by rw [hB1.hc (by exact hbb)]; exact hqc 3 (by omega)
        rw [Nat.add_zero] at u0
        have w0 := getD_byte wr' 0
        have w1 := getD_byte wr' 1
        have w2 := getD_byte wr' 2
        have w3 := getD_byte wr' 3
        generalize rc.getD 0 0 = r0 at *
        generalize rc.getD 1 0 = r1 at *
        generalize rc.getD 2 0 = r2 at *
        generalize rc.getD 3 0 = r3 at *
        have hseU : Unit → _ := fun _ => hse
        clear hse
        have hn32 : n < 4294967296 := by rw [hbe]; exact bound4 w0 w1 w2 w3
        have d4 : (4 : Int) ≤ d := by omega
        have sh : Unit → Value.int .i64 (16777216 * (r0 : Int) + 65536 * (r1 : Int) + 256 * (r2 : Int) + (r3 : Int)) = Value.int .i64 (n : Int) := fun _ => by rw [hbe]; congr 1
        clear hbe
        simp (config := {maxSteps := 2000000, implicitDefEqProofs := false}) only [go_sem, ↓reduceIte, Nat.reduceEqDiff, Nat.reduceAdd, Nat.reduceMul, Nat.reduceLeDiff, Nat.reduceLT, Nat.reduceSub, IntWalk.iteOmega, IntWalk.toNatUp, reduceCtorEq, Int.reduceLE, Int.reduceLT, Int.reduceToNat, Int.reduceNeg, e0, hm', hm2', d4]
        refine VS.mono (N := fun F g => g1 = g ∧ F 1 = .slice (some ⟨bb, oo, none⟩) rc.length d ∧ F 2 = .pointer (some ⟨h.size, 0, none⟩) ∧ F 4 = .pointer (some ⟨h.size + 1, 0, none⟩) ∧ F 8 = .int .i64 n) ?_ ?_ (fun _ _ _ h => h) (fun _ _ h => h)
        · refine VS.q mixed (by kernel_rfl) ?_
          simp (config := {maxSteps := 2000000, implicitDefEqProofs := false}) only [go_sem, ↓reduceIte, Nat.reduceEqDiff, Nat.reduceAdd, Nat.reduceMul, Nat.reduceLeDiff, Nat.reduceLT, Nat.reduceSub, IntWalk.iteOmega, IntWalk.toNatUp, reduceCtorEq, Int.reduceLE, Int.reduceLT, Int.reduceToNat, Int.reduceNeg, u0, u1, u2, u3]
          exact sh ()
        clear sh w0 w1 w2 w3
        have hse := hseU ()
        clear hseU
        rintro F _ ⟨rfl, f1, f2, f4, f8⟩
        by_cases hb : 1073741824 ≤ n
        · rw [if_pos hb] at hse
          have hb' : (1073741824 : Int) ≤ (n : Int) := by clear hse; omega
          simp (config := {maxSteps := 2000000, implicitDefEqProofs := false}) only [go_sem, ↓reduceIte, Nat.reduceEqDiff, Nat.reduceAdd, Nat.reduceMul, Nat.reduceLeDiff, Nat.reduceLT, Nat.reduceSub, IntWalk.iteOmega, IntWalk.toNatUp, reduceCtorEq, Int.reduceLE, Int.reduceLT, Int.reduceToNat, Int.reduceNeg, f1, f2, f4, f8, hb', wz1, z1]
          exact ⟨⟨_, _, by rw [hse]; rfl, ⟨_, rfl, OBs.nil _ _ _⟩, OBs.nil _ _ _⟩, hBz _ hB1⟩
        · rw [if_neg hb] at hse
          have hb' : ¬ (1073741824 : Int) ≤ (n : Int) := by clear hse; omega
          have rC : rd g1 ⟨h.size, 0, none⟩ 11 = some (chanC (.slice p kl.length c) sent top s) := rd_last x0 hC11
          have y2 : V.hc g1 ⟨h.size, 2, none⟩ = some (.int .i64 top) := by rw [hc_last x0]; rfl
          by_cases hlow : (n : Int) < top - 8
          · have hm7 := metB_under (s := s) hlow
            rw [if_pos hm7] at hse
            have hl' : (n : Int) + 8 < top := by clear hse; omega
            simp (config := {maxSteps := 2000000, implicitDefEqProofs := false}) only [go_sem, ↓reduceIte, Nat.reduceEqDiff, Nat.reduceAdd, Nat.reduceMul, Nat.reduceLeDiff, Nat.reduceLT, Nat.reduceSub, IntWalk.iteOmega, IntWalk.toNatUp, reduceCtorEq, Int.reduceLE, Int.reduceLT, Int.reduceToNat, Int.reduceNeg, f1, f2, f4, f8, hb', y2, hl', wz1, z1]
            exact ⟨⟨_, _, by rw [hse]; rfl, ⟨_, rfl, OBs.nil _ _ _⟩, OBs.nil _ _ _⟩, hBz _ hB1⟩
          · have hl' : ¬ (n : Int) + 8 < top := by clear hse; omega
            have hmm := metB_mem (s := s) hlow
            simp (config := {maxSteps := 2000000, implicitDefEqProofs := false}) only [go_sem, ↓reduceIte, Nat.reduceEqDiff, Nat.reduceAdd, Nat.reduceMul, Nat.reduceLeDiff, Nat.reduceLT, Nat.reduceSub, IntWalk.iteOmega, IntWalk.toNatUp, reduceCtorEq, Int.reduceLE, Int.reduceLT, Int.reduceToNat, Int.reduceNeg, f1, f2, f4, f8, hb', y2, hl', rC]
            refine (metNumbers_ok T _ _ sent top s hs (by clear hse; omega) (by clear hse; omega)).use ?_
            rintro vm g2 ⟨om, b2⟩
            have z2 := b2.size
            have x02 := b2.get (Nat.lt_of_succ_lt z1) x0
            have x12 := b2.get z1 x1
            have hB2 := hB1.trans (b2.mono hB1.size)
            have lmet := metN_length top s 8
            have hrange := met_range (s := s) t0 t1
            rw [hk] at e0
            obtain ⟨ta, sa⟩ := chan_again hs e0
            have hb0 := metN_below top s
            have hnil : metN top s 8 = [] → topOf (metN top s 8) = 0 := fun e => by rw [e]; rfl
            rw [ta] at hb0 hnil
            obtain ⟨L, hL⟩ : ∃ L, L = metN top s 8 := ⟨_, rfl⟩
            rw [← hL] at om lmet hrange ta hb0 hnil hmm
            have hseU : Unit → _ := fun _ => hse
            clear hse
            obtain ⟨pm, cm, rfl, hmc⟩ := iv_open om.ts
            have hblk := om.own.lt
            simp (config := {maxSteps := 2000000, implicitDefEqProofs := false}) only [go_sem, ↓reduceIte, Nat.reduceEqDiff, Nat.reduceAdd, Nat.reduceMul, Nat.reduceLeDiff, Nat.reduceLT, Nat.reduceSub, IntWalk.iteOmega, IntWalk.toNatUp, reduceCtorEq, Int.reduceLE, Int.reduceLT, Int.reduceToNat, Int.reduceNeg, f1, f2, f4, f8]
            refine VS.loop' (fun F g => F 1 = .slice (some ⟨bb, oo, none⟩) rc.length d ∧ F 2 = .pointer (some ⟨h.size, 0, none⟩) ∧ F 4 = .pointer (some ⟨h.size + 1, 0, none⟩) ∧ F 8 = .int .i64 n ∧ F 9 = .slice pm L.length cm ∧ Bel g2.size g2 g ∧ ∃ i : Nat, i ≤ L.length ∧ F 12 = .int .i64 i ∧ F 11 = .bool (insR n L i).2 ∧ Ots g2.size 3 iv 1 g (F 10) (insR n L i).1 ∧ ∀ x ∈ L.take i, x ≠ n)
              (fun F _ => L.length - (vi (F 12)).toNat) rfl ⟨f1, f2, f4, f8, rfl, Bel.refl _ _, 0, by omega, rfl, rfl, Ots.nil _ _ _ _ _, fun x hx => by simp at hx⟩ ?_
            clear f1 f2 f4 f8 F
            rintro F g ⟨f1, f2, f4, f8, f9, hg, i, hi, f12, f11, ho, hno⟩
            have hgs := hg.size
            have x0g := hg.get (k := h.size) (by omega) x02
            have x1g := hg.get (k := h.size + 1) (by omega) x12
            have hBg := hB2.trans (hg.mono hB2.size)
            by_cases hlt : i < L.length
            · have hlt' : (i : Int) < L.length := by omega
              obtain ⟨bm, omm, rfl, hbm, hmc⟩ := hmc (by intro e; rw [e] at hlt; simp at hlt)
              have u4 : V.hc g ⟨bm, omm + i, none⟩ = some (.int .i64 (L.getD i 0)) := by rw [hg.hc (by exact hbm)]; exact hmc i hlt
              have htake : L.take (i + 1) = L.take i ++ [L.getD i 0] := by rw [take_snoc L i hlt, getD_at hlt]
              have hmemx : L.getD i 0 ∈ L := by rw [getD_at hlt]; exact List.getElem_mem hlt
              have hnext : insR n L (i + 1) = insA n (insR n L i) (L.getD i 0) := rfl
              have hilen := insR_len (n : Int) L i
              obtain ⟨x, hx⟩ : ∃ x, x = L.getD i 0 := ⟨_, rfl⟩
              rw [← hx] at u4 htake hmemx hnext
              by_cases hxn : x = n
              · have hse := hseU ()
                rw [if_pos (hmm.2 (by rw [← hxn]; exact hmemx))] at hse
                have wzg := wz g x1g
                have zlg := lt_of_get x1g
                simp (config := {maxSteps := 2000000, implicitDefEqProofs := false}) only [go_sem, ↓reduceIte, Nat.reduceEqDiff, Nat.reduceAdd, Nat.reduceMul, Nat.reduceLeDiff, Nat.reduceLT, Nat.reduceSub, IntWalk.iteOmega, IntWalk.toNatUp, reduceCtorEq, Int.reduceLE, Int.reduceLT, Int.reduceToNat, Int.reduceNeg, f1, f2, f4, f8, f9, f12, hlt', Int.toNat_natCast, u4, hxn, wzg, zlg]
                exact ⟨⟨_, _, by rw [hse]; rfl, ⟨_, rfl, OBs.nil _ _ _⟩, OBs.nil _ _ _⟩, hBz _ hBg⟩
              · have hno' : ∀ y ∈ L.take (i + 1), y ≠ n := by
                  intro y hy
                  rw [htake, List.mem_append, List.mem_singleton] at hy
                  rcases hy with hy | hy
                  · exact hno y hy
                  · rw [hy]; exact hxn
                obtain ⟨A, D, hAD⟩ : ∃ A D, insR n L i = (A, D) := ⟨_, _, rfl⟩
                rw [hAD] at f11 ho hnext hilen
                simp only at f11 ho hilen
                by_cases hc : D = false ∧ (n : Int) < x
                · obtain ⟨hc1, hc2⟩ := hc
                  subst hc1
                  have hins : insR n L (i + 1) = (A ++ [(n : Int)] ++ [x], true) := by
                    rw [hnext]; unfold insA
                    rw [if_pos ⟨rfl, hc2⟩, decide_eq_true hc2]; rfl
                  simp (config := {maxSteps := 2000000, implicitDefEqProofs := false}) only [go_sem, ↓reduceIte, Nat.reduceEqDiff, Nat.reduceAdd, Nat.reduceMul, Nat.reduceLeDiff, Nat.reduceLT, Nat.reduceSub, IntWalk.iteOmega, IntWalk.toNatUp, reduceCtorEq, Int.reduceLE, Int.reduceLT, Int.reduceToNat, Int.reduceNeg, f1, f2, f4, f8, f9, f11, f12, hlt', Int.toNat_natCast, u4, hxn, hc2]
                  refine append_ts (E := 3) (B := g2.size) (n := 1) (bytes := 8) tsl155 Tryd.underlying155 tn3 tz3 rfl tb3 (fun _ => rfl) (ho.push _) (by simp; omega) (Ts.one (enc := iv) (n : Int) (fun _ => rfl) 1) (by simp; omega) (by omega) ?_
                  intro v' h' ho' hb' _
                  have hg' := (hg.addP hgs (.cells #[.int .i64 n] 3)).trans hb'
                  have hgs' := hg'.size
                  have u5 : V.hc h' ⟨bm, omm + i, none⟩ = some (.int .i64 x) := by rw [hg'.hc (by exact hbm), ← hg.hc (by exact hbm)]; exact u4
                  simp (config := {maxSteps := 2000000, implicitDefEqProofs := false}) only [go_sem, ↓reduceIte, Nat.reduceEqDiff, Nat.reduceAdd, Nat.reduceMul, Nat.reduceLeDiff, Nat.reduceLT, Nat.reduceSub, IntWalk.iteOmega, IntWalk.toNatUp, reduceCtorEq, Int.reduceLE, Int.reduceLT, Int.reduceToNat, Int.reduceNeg, f1, f2, f4, f8, f9, f11, f12, hlt', Int.toNat_natCast, u5]
                  refine append_ts (E := 3) (B := g2.size) (n := 1) (bytes := 8) tsl155 Tryd.underlying155 tn3 tz3 rfl tb3 (fun _ => rfl) (ho'.push _) (by simp; omega) (Ts.one (enc := iv) x (fun _ => rfl) 1) (by simp; omega) (by omega) ?_
                  intro v2 h2 ho2 hb2 _
                  simp (config := {maxSteps := 2000000, implicitDefEqProofs := false}) only [go_sem, ↓reduceIte, Nat.reduceEqDiff, Nat.reduceAdd, Nat.reduceMul, Nat.reduceLeDiff, Nat.reduceLT, Nat.reduceSub, IntWalk.iteOmega, IntWalk.toNatUp, reduceCtorEq, Int.reduceLE, Int.reduceLT, Int.reduceToNat, Int.reduceNeg, f1, f2, f4, f8, f9, f11, f12]
                  refine ⟨⟨f1, f2, f4, f8, f9, (hg'.addP hgs' _).trans hb2, i + 1, hlt, rfl, ?_, ?_, hno'⟩, ?_⟩
                  · rw [hins]; rfl
                  · rw [hins]; exact ho2
                  · simp only [vi, updo_some, ↓reduceIte, f12]; omega
                · have hins : insR n L (i + 1) = (A ++ [x], D || decide ((n : Int) < x)) := by
                    rw [hnext]; unfold insA
                    rw [if_neg hc]
                  cases D with
                  | false =>
                    have hc2 : ¬ (n : Int) < x := fun h => hc ⟨rfl, h⟩
                    rw [decide_eq_false hc2] at hins
                    simp (config := {maxSteps := 2000000, implicitDefEqProofs := false}) only [go_sem, ↓reduceIte, Nat.reduceEqDiff, Nat.reduceAdd, Nat.reduceMul, Nat.reduceLeDiff, Nat.reduceLT, Nat.reduceSub, IntWalk.iteOmega, IntWalk.toNatUp, reduceCtorEq, Int.reduceLE, Int.reduceLT, Int.reduceToNat, Int.reduceNeg, f1, f2, f4, f8, f9, f11, f12, hlt', Int.toNat_natCast, u4, hxn, hc2]
                    refine append_ts (E := 3) (B := g2.size) (n := 1) (bytes := 8) tsl155 Tryd.underlying155 tn3 tz3 rfl tb3 (fun _ => rfl) (ho.push _) (by simp; omega) (Ts.one (enc := iv) x (fun _ => rfl) 1) (by simp; omega) (by omega) ?_
                    intro v2 h2 ho2 hb2 _
                    simp (config := {maxSteps := 2000000, implicitDefEqProofs := false}) only [go_sem, ↓reduceIte, Nat.reduceEqDiff, Nat.reduceAdd, Nat.reduceMul, Nat.reduceLeDiff, Nat.reduceLT, Nat.reduceSub, IntWalk.iteOmega, IntWalk.toNatUp, reduceCtorEq, Int.reduceLE, Int.reduceLT, Int.reduceToNat, Int.reduceNeg, f1, f2, f4, f8, f9, f11, f12]
                    refine ⟨⟨f1, f2, f4, f8, f9, (hg.addP hgs _).trans hb2, i + 1, hlt, rfl, ?_, ?_, hno'⟩, ?_⟩
                    · rw [hins]; exact f11
                    · rw [hins]; exact ho2
                    · simp only [vi, updo_some, ↓reduceIte, f12]; omega
                  | true =>
                    rw [Bool.true_or] at hins
                    simp (config := {maxSteps := 2000000, implicitDefEqProofs := false}) only [go_sem, ↓reduceIte, Nat.reduceEqDiff, Nat.reduceAdd, Nat.reduceMul, Nat.reduceLeDiff, Nat.reduceLT, Nat.reduceSub, IntWalk.iteOmega, IntWalk.toNatUp, reduceCtorEq, Int.reduceLE, Int.reduceLT, Int.reduceToNat, Int.reduceNeg, f1, f2, f4, f8, f9, f11, f12, hlt', Int.toNat_natCast, u4, hxn]
                    refine append_ts (E := 3) (B := g2.size) (n := 1) (bytes := 8) tsl155 Tryd.underlying155 tn3 tz3 rfl tb3 (fun _ => rfl) (ho.push _) (by simp; omega) (Ts.one (enc := iv) x (fun _ => rfl) 1) (by simp; omega) (by omega) ?_
                    intro v2 h2 ho2 hb2 _
                    simp (config := {maxSteps := 2000000, implicitDefEqProofs := false}) only [go_sem, ↓reduceIte, Nat.reduceEqDiff, Nat.reduceAdd, Nat.reduceMul, Nat.reduceLeDiff, Nat.reduceLT, Nat.reduceSub, IntWalk.iteOmega, IntWalk.toNatUp, reduceCtorEq, Int.reduceLE, Int.reduceLT, Int.reduceToNat, Int.reduceNeg, f1, f2, f4, f8, f9, f11, f12]
                    refine ⟨⟨f1, f2, f4, f8, f9, (hg.addP hgs _).trans hb2, i + 1, hlt, rfl, ?_, ?_, hno'⟩, ?_⟩
                    · rw [hins]; exact f11
                    · rw [hins]; exact ho2
                    · simp only [vi, updo_some, ↓reduceIte, f12]; omega
            · have hge : ¬ (i : Int) < L.length := by omega
              obtain rfl : i = L.length := by omega
              rw [List.take_length] at hno
              have hnin : ¬ metB top s n = true := fun h => hno _ (hmm.1 h) rfl
              have hse := hseU ()
              rw [if_neg hnin] at hse
              have hseU : Unit → _ := fun _ => hse
              clear hse
              have hmem := fun x => insF_mem (n := (n : Int)) (l := L) x
              have htop := insF_top (n := (n : Int)) (l := L) (by omega) (by rw [ta]; exact hb0) (by rw [ta]; intro e; exact hnil e)
              have hilen := insR_len (n : Int) L L.length
              have hF : insF n L = if (insR n L L.length).2 = true then (insR n L L.length).1 else (insR n L L.length).1 ++ [(n : Int)] := rfl
              rw [ta] at htop
              have hseen : seenOf (insF n L) (max top ((n : Int) + 1)) = seenT top s n := by
                unfold seenT
                refine seenOf_congr (fun x => ?_) _
                rw [hmem, ← hL, List.mem_append, List.mem_singleton]
              have hrng : ∀ x ∈ insF n L, -1099511627776 ≤ x ∧ x ≤ 1099511627776 ∧ x < topOf (insF n L) := by
                intro x hx
                rw [htop]
                rcases (hmem x).1 hx with hx | hx
                · have h1 := hrange x hx
                  have h2 := hb0 x hx
                  omega
                · omega
              have hFl : (insF n L).length ≤ 20 := by
                rw [hF]; split
                · omega
                · simp; omega
              obtain ⟨A, D, hAD⟩ : ∃ A D, insR n L L.length = (A, D) := ⟨_, _, rfl⟩
              rw [hAD] at f11 ho hF hilen
              simp only at f11 ho hF hilen
              obtain ⟨IF, hIF⟩ : ∃ IF, IF = insF n L := ⟨_, rfl⟩
              rw [← hIF] at hF hmem htop hseen hrng hFl
              clear hIF hAD
              -- what comes behind the loop, whichever way
              have l4 : (head4 n).length = 4 := rfl
              have l12 : (nonceS (head4 n)).length ≤ 1000 := by simp [nonceS, head4]
              have sbk := Bs_back sp rfl (k := 4) (by omega) cu (d - 4)
              have hle4 : (4 : Int) ≤ rc.length := by omega
              have hn30 : n ≤ 1073741824 := by omega
              cases D with
              | true =>
                rw [if_pos rfl] at hF
                rw [← hF] at ho
                have oF := ho
                have hBG := hBg
                have xg0 := x0g
                have xg1 := x1g
                simp (config := {maxSteps := 2000000, implicitDefEqProofs := false}) only [go_sem, ↓reduceIte, Nat.reduceEqDiff, Nat.reduceAdd, Nat.reduceMul, Nat.reduceLeDiff, Nat.reduceLT, Nat.reduceSub, IntWalk.iteOmega, IntWalk.toNatUp, reduceCtorEq, Int.reduceLE, Int.reduceLT, Int.reduceToNat, Int.reduceNeg, f1, f2, f4, f8, f9, f11, f12, hge]
                refine (lineHead_ok T _ n hn30).use ?_
                rintro vh g4 ⟨oh, b4⟩
                have z4 := b4.size
                have hBa := hBG.trans (b4.mono hBG.size)
                have o8 : OBs g4.size 5 (g4.push (.cells ((List.replicate 8 0).map bv).toArray 5)) (.slice (some ⟨g4.size, 0, none⟩) 8 8) (List.replicate 8 0) := OBs.made (l := List.replicate 8 0) (fun x hx => by rw [List.eq_of_mem_replicate hx]; decide) (Nat.le_refl _)
                have zp : (g4.push (.cells ((List.replicate 8 0).map bv).toArray 5)).size = g4.size + 1 := by simp
                have bp : Bel g4.size g4 (g4.push (.cells ((List.replicate 8 0).map bv).toArray 5)) := Bel.push (Nat.le_refl _) _
                simp (config := {maxSteps := 2000000, implicitDefEqProofs := false}) only [go_sem, ↓reduceIte, Nat.reduceEqDiff, Nat.reduceAdd, Nat.reduceMul, Nat.reduceLeDiff, Nat.reduceLT, Nat.reduceSub, IntWalk.iteOmega, IntWalk.toNatUp, reduceCtorEq, Int.reduceLE, Int.reduceLT, Int.reduceToNat, Int.reduceNeg, f1, f2, f4, f8, zero8]
                refine (joined_ok T _ _ _ (List.replicate 8 0) (head4 n) o8.bs (oh.bs.bel bp) (by simp [head4])).use ?_
                rintro vn g5 ⟨on, b5⟩
                have on : OBs (g4.size + 1) 5 g5 vn (nonceS (head4 n)) := by rw [← zp]; exact on
                have b45 : Bel g4.size g4 g5 := bp.trans (b5.mono (by omega))
                have z5 := b45.size
                have hBb := hBa.trans (b45.mono hBa.size)
                have xG0 := (b4.trans (b45.mono z4)).get (lt_of_get xg0) xg0
                have xG1 := (b4.trans (b45.mono z4)).get (lt_of_get xg1) xg1
                have yk : V.hc g5 ⟨h.size, 0, none⟩ = some (.slice p kl.length c) := by rw [hc_last xG0]; rfl
                have zl0 := lt_of_get xG0
                simp (config := {maxSteps := 2000000, implicitDefEqProofs := false}) only [go_sem, ↓reduceIte, Nat.reduceEqDiff, Nat.reduceAdd, Nat.reduceMul, Nat.reduceLeDiff, Nat.reduceLT, Nat.reduceSub, IntWalk.iteOmega, IntWalk.toNatUp, reduceCtorEq, Int.reduceLE, Int.reduceLT, Int.reduceToNat, Int.reduceNeg, f1, f2, f4, f8]
                refine VS.w (g5.size) [] (.q 0 (.q 1 (.q 2 (.q 3 (.q 4 (.q 5 (.s 6 (.q 7 (.q 8 (.q 9 (.q 10 (.q 11 .nil)))))))))))) mixed (by kernel_rfl) ?_
                simp (config := {maxSteps := 2000000, implicitDefEqProofs := false}) only [go_sem, ↓reduceIte, Nat.reduceEqDiff, Nat.reduceAdd, Nat.reduceMul, Nat.reduceLeDiff, Nat.reduceLT, Nat.reduceSub, IntWalk.iteOmega, IntWalk.toNatUp, reduceCtorEq, Int.reduceLE, Int.reduceLT, Int.reduceToNat, Int.reduceNeg, f1, f2, f4, f8, yk, zl0, hle4, vSlcL_sub]
                refine (opened_ok T _ _ _ _ _ kl (nonceS (head4 n)) (head4 n) (rc.drop 4) (sk.bel hBb) on.bs (oh.bs.bel b45) (sbk.bel hBb) (show rc.length - 4 ≤ d - 4 by omega)).use ?_
                rintro _ g6 ⟨⟨w6, rfl, o6⟩, b6⟩
                have z6 := b6.size
                have b6T : Bel g5.size g5 g6 = True := eq_true b6
                have hse := hseU ()
                clear hseU
                rw [← hse] at o6 ⊢
                clear hse
                have xH0 := b6.get (lt_of_get xG0) xG0
                have xH1 := b6.get (lt_of_get xG1) xG1
                have hBc := hBb.trans (b6.mono hBb.size)
                have wz6 := wz g6 xH1
                have zl6 := lt_of_get xH1
                by_cases hE0 : E = 0
                · subst hE0
                  rw [if_pos rfl] at o6
                  have yk6 : V.hc g6 ⟨h.size, 0, none⟩ = some (.slice p kl.length c) := by rw [hc_last xH0]; rfl
                  have ys6 : V.hc g6 ⟨h.size, 1, none⟩ = some (.int .i64 sent) := by rw [hc_last xH0]; rfl
                  have oF6 := ((oF.ts.bel b4).bel b45).bel b6
                  simp (config := {maxSteps := 2000000, implicitDefEqProofs := false}) only [go_sem, ↓reduceIte, Nat.reduceEqDiff, Nat.reduceAdd, Nat.reduceMul, Nat.reduceLeDiff, Nat.reduceLT, Nat.reduceSub, IntWalk.iteOmega, IntWalk.toNatUp, reduceCtorEq, Int.reduceLE, Int.reduceLT, Int.reduceToNat, Int.reduceNeg, f1, f2, f4, f8, b6T, yk6, ys6]
                  refine (channelOf_ok T _ _ _ kl sent IF (sk.bel hBc) (by omega) oF6 (by omega) hrng).use ?_
                  rintro _ g7 ⟨⟨w7, rfl, o7⟩, b7⟩
                  rw [htop, hseen]
                  have x17 := b7.get zl6 xH1
                  have z7 := b7.size
                  obtain ⟨pw, cw, rfl, _⟩ := o7.open
                  have l8 : (seenT top s n).length = 8 := seenOf_length _ _
                  have hD11 := chanC_length (.slice pw kl.length cw) sent (max top ((n : Int) + 1)) (seenT top s n) l8
                  have oD := chanC_one (p := pw) (n := kl.length) (c := cw) sent (max top ((n : Int) + 1)) (seenT top s n)
                  have tkD := take_len hD11
                  have wD := wrZ x17 hD11 oD
                  have zl7 := lt_of_get x17
                  have o6' := o6.bel b7 (Nat.le_refl _)
                  obtain ⟨C5, hC5⟩ : ∃ C5, C5 = chanC (.slice pw kl.length cw) sent (max top ((n : Int) + 1)) (seenT top s n) := ⟨_, rfl⟩
                  rw [← hC5] at hD11 oD tkD wD ⊢
                  simp (config := {maxSteps := 2000000, implicitDefEqProofs := false}) only [go_sem, ↓reduceIte, Nat.reduceEqDiff, Nat.reduceAdd, Nat.reduceMul, Nat.reduceLeDiff, Nat.reduceLT, Nat.reduceSub, IntWalk.iteOmega, IntWalk.toNatUp, reduceCtorEq, Int.reduceLE, Int.reduceLT, Int.reduceToNat, Int.reduceNeg, f1, f2, f4, f8, wD, hD11, tkD, zl7]
                  exact ⟨⟨_, _, rfl, ⟨_, by rw [hC5], (o7.setLow (by omega) _).mono (by omega)⟩, (o6'.setLow (by omega) _).mono (by omega)⟩, (hBc.trans (b7.mono hBc.size)).addSet (by omega) _⟩
                · rw [if_neg hE0] at o6
                  simp (config := {maxSteps := 2000000, implicitDefEqProofs := false}) only [go_sem, ↓reduceIte, Nat.reduceEqDiff, Nat.reduceAdd, Nat.reduceMul, Nat.reduceLeDiff, Nat.reduceLT, Nat.reduceSub, IntWalk.iteOmega, IntWalk.toNatUp, reduceCtorEq, Int.reduceLE, Int.reduceLT, Int.reduceToNat, Int.reduceNeg, f1, f2, f4, f8, b6T, hE0, wz6, zl6]
                  exact ⟨⟨_, _, rfl, ⟨_, rfl, OBs.nil _ _ _⟩, OBs.nil _ _ _⟩, hBz _ hBc⟩
              | false =>
                rw [if_neg (by decide)] at hF
                simp (config := {maxSteps := 2000000, implicitDefEqProofs := false}) only [go_sem, ↓reduceIte, Nat.reduceEqDiff, Nat.reduceAdd, Nat.reduceMul, Nat.reduceLeDiff, Nat.reduceLT, Nat.reduceSub, IntWalk.iteOmega, IntWalk.toNatUp, reduceCtorEq, Int.reduceLE, Int.reduceLT, Int.reduceToNat, Int.reduceNeg, f1, f2, f4, f8, f9, f11, f12, hge]
                refine append_ts (E := 3) (B := g2.size) (n := 1) (bytes := 8) tsl155 Tryd.underlying155 tn3 tz3 rfl tb3 (fun _ => rfl) (ho.push _) (by simp; omega) (Ts.one (enc := iv) (n : Int) (fun _ => rfl) 1) (by simp; omega) (by omega) ?_
                intro vF gF oF hbF _
                rw [← hF] at oF
                have hgF := (hg.addP hgs (.cells #[.int .i64 n] 3)).trans hbF
                have hBG := hB2.trans (hgF.mono hB2.size)
                have hgFs := hgF.size
                have xg0 := hgF.get (k := h.size) (by omega) x02
                have xg1 := hgF.get (k := h.size + 1) (by omega) x12
                simp (config := {maxSteps := 2000000, implicitDefEqProofs := false}) only [go_sem, ↓reduceIte, Nat.reduceEqDiff, Nat.reduceAdd, Nat.reduceMul, Nat.reduceLeDiff, Nat.reduceLT, Nat.reduceSub, IntWalk.iteOmega, IntWalk.toNatUp, reduceCtorEq, Int.reduceLE, Int.reduceLT, Int.reduceToNat, Int.reduceNeg, f1, f2, f4, f8, f9, f11, f12]
                refine (lineHead_ok T _ n hn30).use ?_
                rintro vh g4 ⟨oh, b4⟩
                have z4 := b4.size
                have hBa := hBG.trans (b4.mono hBG.size)
                have o8 : OBs g4.size 5 (g4.push (.cells ((List.replicate 8 0).map bv).toArray 5)) (.slice (some ⟨g4.size, 0, none⟩) 8 8) (List.replicate 8 0) := OBs.made (l := List.replicate 8 0) (fun x hx => by rw [List.eq_of_mem_replicate hx]; decide) (Nat.le_refl _)
                have zp : (g4.push (.cells ((List.replicate 8 0).map bv).toArray 5)).size = g4.size + 1 := by simp
                have bp : Bel g4.size g4 (g4.push (.cells ((List.replicate 8 0).map bv).toArray 5)) := Bel.push (Nat.le_refl _) _
                simp (config := {maxSteps := 2000000, implicitDefEqProofs := false}) only [go_sem, ↓reduceIte, Nat.reduceEqDiff, Nat.reduceAdd, Nat.reduceMul, Nat.reduceLeDiff, Nat.reduceLT, Nat.reduceSub, IntWalk.iteOmega, IntWalk.toNatUp, reduceCtorEq, Int.reduceLE, Int.reduceLT, Int.reduceToNat, Int.reduceNeg, f1, f2, f4, f8, zero8]
                refine (joined_ok T _ _ _ (List.replicate 8 0) (head4 n) o8.bs (oh.bs.bel bp) (by simp [head4])).use ?_
                rintro vn g5 ⟨on, b5⟩
                have on : OBs (g4.size + 1) 5 g5 vn (nonceS (head4 n)) := by rw [← zp]; exact on
                have b45 : Bel g4.size g4 g5 := bp.trans (b5.mono (by omega))
                have z5 := b45.size
                have hBb := hBa.trans (b45.mono hBa.size)
                have xG0 := (b4.trans (b45.mono z4)).get (lt_of_get xg0) xg0
                have xG1 := (b4.trans (b45.mono z4)).get (lt_of_get xg1) xg1
                have yk : V.hc g5 ⟨h.size, 0, none⟩ = some (.slice p kl.length c) := by rw [hc_last xG0]; rfl
                have zl0 := lt_of_get xG0
                simp (config := {maxSteps := 2000000, implicitDefEqProofs := false}) only [go_sem, ↓reduceIte, Nat.reduceEqDiff, Nat.reduceAdd, Nat.reduceMul, Nat.reduceLeDiff, Nat.reduceLT, Nat.reduceSub, IntWalk.iteOmega, IntWalk.toNatUp, reduceCtorEq, Int.reduceLE, Int.reduceLT, Int.reduceToNat, Int.reduceNeg, f1, f2, f4, f8]
                refine VS.w (g5.size) [] (.q 0 (.q 1 (.q 2 (.q 3 (.q 4 (.q 5 (.s 6 (.q 7 (.q 8 (.q 9 (.q 10 (.q 11 .nil)))))))))))) mixed (by kernel_rfl) ?_
                simp (config := {maxSteps := 2000000, implicitDefEqProofs := false}) only [go_sem, ↓reduceIte, Nat.reduceEqDiff, Nat.reduceAdd, Nat.reduceMul, Nat.reduceLeDiff, Nat.reduceLT, Nat.reduceSub, IntWalk.iteOmega, IntWalk.toNatUp, reduceCtorEq, Int.reduceLE, Int.reduceLT, Int.reduceToNat, Int.reduceNeg, f1, f2, f4, f8, yk, zl0, hle4, vSlcL_sub]
                refine (opened_ok T _ _ _ _ _ kl (nonceS (head4 n)) (head4 n) (rc.drop 4) (sk.bel hBb) on.bs (oh.bs.bel b45) (sbk.bel hBb) (show rc.length - 4 ≤ d - 4 by omega)).use ?_
                rintro _ g6 ⟨⟨w6, rfl, o6⟩, b6⟩
                have z6 := b6.size
                have b6T : Bel g5.size g5 g6 = True := eq_true b6
                have hse := hseU ()
                clear hseU
                rw [← hse] at o6 ⊢
                clear hse
                have xH0 := b6.get (lt_of_get xG0) xG0
                have xH1 := b6.get (lt_of_get xG1) xG1
                have hBc := hBb.trans (b6.mono hBb.size)
                have wz6 := wz g6 xH1
                have zl6 := lt_of_get xH1
                by_cases hE0 : E = 0
                · subst hE0
                  rw [if_pos rfl] at o6
                  have yk6 : V.hc g6 ⟨h.size, 0, none⟩ = some (.slice p kl.length c) := by rw [hc_last xH0]; rfl
                  have ys6 : V.hc g6 ⟨h.size, 1, none⟩ = some (.int .i64 sent) := by rw [hc_last xH0]; rfl
                  have oF6 := ((oF.ts.bel b4).bel b45).bel b6
                  simp (config := {maxSteps := 2000000, implicitDefEqProofs := false}) only [go_sem, ↓reduceIte, Nat.reduceEqDiff, Nat.reduceAdd, Nat.reduceMul, Nat.reduceLeDiff, Nat.reduceLT, Nat.reduceSub, IntWalk.iteOmega, IntWalk.toNatUp, reduceCtorEq, Int.reduceLE, Int.reduceLT, Int.reduceToNat, Int.reduceNeg, f1, f2, f4, f8, b6T, yk6, ys6]
                  refine (channelOf_ok T _ _ _ kl sent IF (sk.bel hBc) (by omega) oF6 (by omega) hrng).use ?_
                  rintro _ g7 ⟨⟨w7, rfl, o7⟩, b7⟩
                  rw [htop, hseen]
                  have x17 := b7.get zl6 xH1
                  have z7 := b7.size
                  obtain ⟨pw, cw, rfl, _⟩ := o7.open
                  have l8 : (seenT top s n).length = 8 := seenOf_length _ _
                  have hD11 := chanC_length (.slice pw kl.length cw) sent (max top ((n : Int) + 1)) (seenT top s n) l8
                  have oD := chanC_one (p := pw) (n := kl.length) (c := cw) sent (max top ((n : Int) + 1)) (seenT top s n)
                  have tkD := take_len hD11
                  have wD := wrZ x17 hD11 oD
                  have zl7 := lt_of_get x17
                  have o6' := o6.bel b7 (Nat.le_refl _)
                  obtain ⟨C5, hC5⟩ : ∃ C5, C5 = chanC (.slice pw kl.length cw) sent (max top ((n : Int) + 1)) (seenT top s n) := ⟨_, rfl⟩
                  rw [← hC5] at hD11 oD tkD wD ⊢
                  simp (config := {maxSteps := 2000000, implicitDefEqProofs := false}) only [go_sem, ↓reduceIte, Nat.reduceEqDiff, Nat.reduceAdd, Nat.reduceMul, Nat.reduceLeDiff, Nat.reduceLT, Nat.reduceSub, IntWalk.iteOmega, IntWalk.toNatUp, reduceCtorEq, Int.reduceLE, Int.reduceLT, Int.reduceToNat, Int.reduceNeg, f1, f2, f4, f8, wD, hD11, tkD, zl7]
                  exact ⟨⟨_, _, rfl, ⟨_, by rw [hC5], (o7.setLow (by omega) _).mono (by omega)⟩, (o6'.setLow (by omega) _).mono (by omega)⟩, (hBc.trans (b7.mono hBc.size)).addSet (by omega) _⟩
                · rw [if_neg hE0] at o6
                  simp (config := {maxSteps := 2000000, implicitDefEqProofs := false}) only [go_sem, ↓reduceIte, Nat.reduceEqDiff, Nat.reduceAdd, Nat.reduceMul, Nat.reduceLeDiff, Nat.reduceLT, Nat.reduceSub, IntWalk.iteOmega, IntWalk.toNatUp, reduceCtorEq, Int.reduceLE, Int.reduceLT, Int.reduceToNat, Int.reduceNeg, f1, f2, f4, f8, b6T, hE0, wz6, zl6]
                  exact ⟨⟨_, _, rfl, ⟨_, rfl, OBs.nil _ _ _⟩, OBs.nil _ _ _⟩, hBz _ hBc⟩
  · rw [if_pos e0] at hse
    have e5 := (chanErr_five kl.length sent top s).resolve_left e0
    simp (config := {maxSteps := 2000000, implicitDefEqProofs := false}) only [go_sem, ↓reduceIte, Nat.reduceEqDiff, Nat.reduceAdd, Nat.reduceMul, Nat.reduceLeDiff, Nat.reduceLT, Nat.reduceSub, IntWalk.iteOmega, IntWalk.toNatUp, reduceCtorEq, Int.reduceLE, Int.reduceLT, Int.reduceToNat, Int.reduceNeg, e5, wz1, z1]
    exact ⟨⟨_, _, by rw [hse]; rfl, ⟨_, rfl, OBs.nil _ _ _⟩, OBs.nil _ _ _⟩, hBz _ hB1⟩
end Go.Proofs.YtnpacofabdgcdaaDoor
