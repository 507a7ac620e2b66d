/- A line's channels: what its check, and the document's, compute; no condition but those in the statements. -/
import Derived.Test.YtnpacofabdgcdaaDoorBase
import Derived.Test.YtnpacofabdgcdaaDoorBytes
import Derived.Test.YtnpacofabdgcdaaDoorW8
namespace Go.Proofs.YtnpacofabdgcdaaDoor
open Go Go.V
set_option linter.unusedSimpArgs false
set_option linter.unusedVariables false
set_option maxRecDepth 100000
/-- A channel's cells. -/
def chanC (k : Value) (sent top : Int) (s : List Bool) : List Value := k :: .int .i64 sent :: .int .i64 top :: s.map Value.bool
def iv (x : Int) : List Value := [.int .i64 x]
def early (top : Int) (s : List Bool) (n : Nat) : Bool := (List.range n).any fun i => s.getD i false && decide (top - 8 + i < 0)
def chanErr (n : Nat) (sent top : Int) (s : List Bool) : Int :=
  if n ≠ 32 ∨ sent < 0 ∨ 1073741824 < sent ∨ top < 0 ∨ 1073741824 < top then 5 else
  if early top s 8 = true then 5 else if 0 < top ∧ s.getD 7 false = false then 5 else 0
theorem bools_nth (s : List Bool) (i : Nat) (hi : i < s.length) : nth (s.map Value.bool) i = some (.bool (s.getD i false)) := by
  rw [nth_eq, List.getElem?_map, List.getD_eq_getElem?_getD, List.getElem?_eq_getElem hi]; rfl
theorem early_succ (top : Int) (s : List Bool) (i : Nat) : early top s (i + 1) = (early top s i || (s.getD i false && decide (top - 8 + i < 0))) := by
  simp [early, List.range_succ]
theorem early_more {top : Int} {s : List Bool} {i : Nat} (hi : i < 8) (h1 : s.getD i false = true) (h2 : top - 8 + i < 0) : early top s 8 = true := by
  unfold early
  rw [List.any_eq_true]
  exact ⟨i, List.mem_range.2 hi, by simp only [h1, Bool.true_and, decide_eq_true_eq]; exact h2⟩
theorem lineCheck_ok (T : World) (h : Hp) (p : Option Addr) (n c : Nat) (sent top : Int) (s : List Bool) (hs : s.length = 8) :
    CallsH Tryd.prog T 146 #[.agg (chanC (.slice p n c) sent top s).toArray] h fun v' h' => v' = .int .i64 (chanErr n sent top s) ∧ Bel h.size h h' := by
  refine CallsH.of_code' (args := [_]) Tryd.func146 rfl rfl rfl rfl ?_
  have hs' : (s.map Value.bool).length = 8 := by rw [List.length_map, hs]
  have tk : (s.map Value.bool).take 8 = s.map Value.bool := take_len hs'
  have n7 := bools_nth s 7 (by omega)
  unfold chanC
  by_cases q : n ≠ 32 ∨ sent < 0 ∨ 1073741824 < sent ∨ top < 0 ∨ 1073741824 < top
  · have e : chanErr n sent top s = 5 := by unfold chanErr; rw [if_pos q]
    rw [e]
    by_cases q1 : (n : Int) = 32
    · by_cases q2 : sent < 0
      · simp (config := {contextual := true, maxSteps := 2000000, implicitDefEqProofs := false}) only [go_sem, ↓reduceIte, Nat.reduceEqDiff, Nat.reduceAdd, Nat.reduceMul, Nat.reduceLeDiff, Nat.reduceLT, Nat.reduceSub, IntWalk.iteOmega, IntWalk.toNatUp, reduceCtorEq, Int.reduceLE, Int.reduceLT, Int.reduceToNat, Int.reduceNeg, q1, q2]
        (repeat' (first | exact Bel.refl _ _ | assumption | refine Bel.add ?_ _ | refine Bel.addSet ?_ (by first | omega | (simp; omega)) _ | refine Bel.trans (by assumption) ?_))
      · by_cases q3 : 1073741824 < sent
        · simp (config := {contextual := true, maxSteps := 2000000, implicitDefEqProofs := false}) only [go_sem, ↓reduceIte, Nat.reduceEqDiff, Nat.reduceAdd, Nat.reduceMul, Nat.reduceLeDiff, Nat.reduceLT, Nat.reduceSub, IntWalk.iteOmega, IntWalk.toNatUp, reduceCtorEq, Int.reduceLE, Int.reduceLT, Int.reduceToNat, Int.reduceNeg, q1, q2, q3]
          (repeat' (first | exact Bel.refl _ _ | assumption | refine Bel.add ?_ _ | refine Bel.addSet ?_ (by first | omega | (simp; omega)) _ | refine Bel.trans (by assumption) ?_))
        · by_cases q4 : top < 0
          · simp (config := {contextual := true, maxSteps := 2000000, implicitDefEqProofs := false}) only [go_sem, ↓reduceIte, Nat.reduceEqDiff, Nat.reduceAdd, Nat.reduceMul, Nat.reduceLeDiff, Nat.reduceLT, Nat.reduceSub, IntWalk.iteOmega, IntWalk.toNatUp, reduceCtorEq, Int.reduceLE, Int.reduceLT, Int.reduceToNat, Int.reduceNeg, q1, q2, q3, q4]
            (repeat' (first | exact Bel.refl _ _ | assumption | refine Bel.add ?_ _ | refine Bel.addSet ?_ (by first | omega | (simp; omega)) _ | refine Bel.trans (by assumption) ?_))
          · have q5 : 1073741824 < top := by omega
            simp (config := {contextual := true, maxSteps := 2000000, implicitDefEqProofs := false}) only [go_sem, ↓reduceIte, Nat.reduceEqDiff, Nat.reduceAdd, Nat.reduceMul, Nat.reduceLeDiff, Nat.reduceLT, Nat.reduceSub, IntWalk.iteOmega, IntWalk.toNatUp, reduceCtorEq, Int.reduceLE, Int.reduceLT, Int.reduceToNat, Int.reduceNeg, q1, q2, q3, q4, q5]
            (repeat' (first | exact Bel.refl _ _ | assumption | refine Bel.add ?_ _ | refine Bel.addSet ?_ (by first | omega | (simp; omega)) _ | refine Bel.trans (by assumption) ?_))
    · simp (config := {contextual := true, maxSteps := 2000000, implicitDefEqProofs := false}) only [go_sem, ↓reduceIte, Nat.reduceEqDiff, Nat.reduceAdd, Nat.reduceMul, Nat.reduceLeDiff, Nat.reduceLT, Nat.reduceSub, IntWalk.iteOmega, IntWalk.toNatUp, reduceCtorEq, Int.reduceLE, Int.reduceLT, Int.reduceToNat, Int.reduceNeg, q1]
      (repeat' (first | exact Bel.refl _ _ | assumption | refine Bel.add ?_ _ | refine Bel.addSet ?_ (by first | omega | (simp; omega)) _ | refine Bel.trans (by assumption) ?_))
  · have q1 : (n : Int) = 32 := by omega
    have q2 : ¬ sent < 0 := by omega
    have q3 : ¬ 1073741824 < sent := by omega
    have q4 : ¬ top < 0 := by omega
    have q5 : ¬ 1073741824 < top := by omega
    simp (config := {contextual := true, maxSteps := 2000000, implicitDefEqProofs := false}) only [go_sem, ↓reduceIte, Nat.reduceEqDiff, Nat.reduceAdd, Nat.reduceMul, Nat.reduceLeDiff, Nat.reduceLT, Nat.reduceSub, IntWalk.iteOmega, IntWalk.toNatUp, reduceCtorEq, Int.reduceLE, Int.reduceLT, Int.reduceToNat, Int.reduceNeg, q1, q2, q3, q4, q5, hs', tk]
    obtain ⟨H, hH⟩ : ∃ H : Hp, H = h.push (.cells (.slice p n c :: .int .i64 sent :: .int .i64 top :: s.map Value.bool).toArray 143) := ⟨_, rfl⟩
    have hb : Bel h.size h H := by rw [hH]; exact (Bel.refl _ _).add _
    have x1 : H[h.size]? = some (.cells (.slice p n c :: .int .i64 sent :: .int .i64 top :: s.map Value.bool).toArray 143) := by rw [hH]; exact get_push_last
    have x2 : hc H ⟨h.size, 2, none⟩ = some (.int .i64 top) := by rw [hc_last x1]; rfl
    have x7 : hc H ⟨h.size, 3 + 7, none⟩ = some (.bool (s.getD 7 false)) := by rw [hc_last x1]; exact n7
    rw [← hH]
    refine VS.loop' (fun F g => g = H ∧ F 1 = .pointer (some ⟨h.size, 0, none⟩) ∧ F 30 = .agg (s.map Value.bool).toArray ∧ ∃ i : Nat, i ≤ 8 ∧ F 31 = .int .i64 i ∧ early top s i = false)
      (fun F _ => 8 - (vi (F 31)).toNat) rfl ⟨rfl, rfl, rfl, 0, by omega, rfl, rfl⟩ ?_
    rintro F g ⟨rfl, f1, f30, i, hi, f31, he⟩
    by_cases hlt : i < 8
    · have hlt' : (i : Int) < 8 := by omega
      have ni := bools_nth s i (by omega)
      by_cases c1 : s.getD i false = true
      · rw [c1] at ni
        by_cases c2 : top - 8 + i < 0
        · have e : chanErr n sent top s = 5 := by unfold chanErr; rw [if_neg q, if_pos (early_more hlt c1 c2)]
          rw [e]
          simp (config := {contextual := true, maxSteps := 2000000, implicitDefEqProofs := false}) only [go_sem, ↓reduceIte, Nat.reduceEqDiff, Nat.reduceAdd, Nat.reduceMul, Nat.reduceLeDiff, Nat.reduceLT, Nat.reduceSub, IntWalk.iteOmega, IntWalk.toNatUp, reduceCtorEq, Int.reduceLE, Int.reduceLT, Int.reduceToNat, Int.reduceNeg, f1, f30, f31, hlt', ni, x2, c2, hb]
        · simp (config := {contextual := true, maxSteps := 2000000, implicitDefEqProofs := false}) only [go_sem, ↓reduceIte, Nat.reduceEqDiff, Nat.reduceAdd, Nat.reduceMul, Nat.reduceLeDiff, Nat.reduceLT, Nat.reduceSub, IntWalk.iteOmega, IntWalk.toNatUp, reduceCtorEq, Int.reduceLE, Int.reduceLT, Int.reduceToNat, Int.reduceNeg, f1, f30, f31, hlt', ni, x2, c2]
          refine ⟨⟨rfl, f1, f30, i + 1, hlt, rfl, by rw [early_succ, he, c1]; simpa using c2⟩, ?_⟩
          simp only [vi, updo_some, ↓reduceIte, f31]; omega
      · have c1 : s.getD i false = false := by simpa using c1
        rw [c1] at ni
        simp (config := {contextual := true, maxSteps := 2000000, implicitDefEqProofs := false}) only [go_sem, ↓reduceIte, Nat.reduceEqDiff, Nat.reduceAdd, Nat.reduceMul, Nat.reduceLeDiff, Nat.reduceLT, Nat.reduceSub, IntWalk.iteOmega, IntWalk.toNatUp, reduceCtorEq, Int.reduceLE, Int.reduceLT, Int.reduceToNat, Int.reduceNeg, f1, f30, f31, hlt', ni]
        refine ⟨⟨rfl, f1, f30, i + 1, hlt, rfl, by rw [early_succ, he, c1]; rfl⟩, ?_⟩
        simp only [vi, updo_some, ↓reduceIte, f31]; omega
    · have hge : ¬ (i : Int) < 8 := by omega
      obtain rfl : i = 8 := by omega
      have e : chanErr n sent top s = if 0 < top ∧ s.getD 7 false = false then 5 else 0 := by unfold chanErr; rw [if_neg q, he]; rfl
      rw [e]
      by_cases c1 : 0 < top
      · by_cases c2 : s.getD 7 false = true
        · rw [c2] at x7
          simp (config := {contextual := true, maxSteps := 2000000, implicitDefEqProofs := false}) only [go_sem, ↓reduceIte, Nat.reduceEqDiff, Nat.reduceAdd, Nat.reduceMul, Nat.reduceLeDiff, Nat.reduceLT, Nat.reduceSub, IntWalk.iteOmega, IntWalk.toNatUp, reduceCtorEq, Int.reduceLE, Int.reduceLT, Int.reduceToNat, Int.reduceNeg, f1, f30, f31, hge, x2, x7, c1, c2, hb]
        · have c2 : s.getD 7 false = false := by simpa using c2
          rw [c2] at x7
          simp (config := {contextual := true, maxSteps := 2000000, implicitDefEqProofs := false}) only [go_sem, ↓reduceIte, Nat.reduceEqDiff, Nat.reduceAdd, Nat.reduceMul, Nat.reduceLeDiff, Nat.reduceLT, Nat.reduceSub, IntWalk.iteOmega, IntWalk.toNatUp, reduceCtorEq, Int.reduceLE, Int.reduceLT, Int.reduceToNat, Int.reduceNeg, f1, f30, f31, hge, x2, x7, c1, c2, hb]
      · simp (config := {contextual := true, maxSteps := 2000000, implicitDefEqProofs := false}) only [go_sem, ↓reduceIte, Nat.reduceEqDiff, Nat.reduceAdd, Nat.reduceMul, Nat.reduceLeDiff, Nat.reduceLT, Nat.reduceSub, IntWalk.iteOmega, IntWalk.toNatUp, reduceCtorEq, Int.reduceLE, Int.reduceLT, Int.reduceToNat, Int.reduceNeg, f1, f30, f31, hge, x2, c1, hb]
/-- The numbers that were met, rising. -/
def metN (top : Int) (s : List Bool) (n : Nat) : List Int := ((List.range n).filter fun i => s.getD i false).map fun i : Nat => top - 8 + (i : Int)
theorem metN_succ (top : Int) (s : List Bool) (i : Nat) : metN top s (i + 1) = metN top s i ++ (if s.getD i false = true then [top - 8 + (i : Int)] else []) := by
  unfold metN
  rw [List.range_succ, List.filter_append, List.map_append]
  congr 1
  by_cases h : s.getD i false = true
  · rw [List.filter_cons_of_pos (by simpa using h), if_pos h]; rfl
  · rw [List.filter_cons_of_neg (by simpa using h), if_neg h]; rfl
theorem metN_length (top : Int) (s : List Bool) (n : Nat) : (metN top s n).length ≤ n := by
  unfold metN
  rw [List.length_map]
  exact Nat.le_trans (List.length_filter_le _ _) (by simp)
theorem metNumbers_ok (T : World) (h : Hp) (k : Value) (sent top : Int) (s : List Bool) (hs : s.length = 8) (h1 : -1099511627776 ≤ top) (h2 : top ≤ 1099511627776) :
    CallsH Tryd.prog T 153 #[.agg (chanC k sent top s).toArray] h fun v' h' => Ots h.size 3 iv 1 h' v' (metN top s 8) ∧ Bel h.size h h' := by
  refine CallsH.of_code' (args := [_]) Tryd.func153 rfl rfl rfl rfl ?_
  have hs' : (s.map Value.bool).length = 8 := by rw [List.length_map, hs]
  unfold chanC
  simp (config := {contextual := true, maxSteps := 2000000, implicitDefEqProofs := false}) only [go_sem, ↓reduceIte, Nat.reduceEqDiff, Nat.reduceAdd, Nat.reduceMul, Nat.reduceLeDiff, Nat.reduceLT, Nat.reduceSub, IntWalk.iteOmega, IntWalk.toNatUp, reduceCtorEq, Int.reduceLE, Int.reduceLT, Int.reduceToNat, Int.reduceNeg]
  obtain ⟨H, hH⟩ : ∃ H : Hp, H = h.push (.cells (k :: .int .i64 sent :: .int .i64 top :: s.map Value.bool).toArray 143) := ⟨_, rfl⟩
  have hb : Bel h.size h H := by rw [hH]; exact (Bel.refl _ _).add _
  have x1 : H[h.size]? = some (.cells (k :: .int .i64 sent :: .int .i64 top :: s.map Value.bool).toArray 143) := by rw [hH]; exact get_push_last
  have hsz : H.size = h.size + 1 := by rw [hH]; simp
  rw [← hH]
  refine VS.loop' (fun F g => Bel (h.size + 1) H g ∧ F 1 = .pointer (some ⟨h.size, 0, none⟩) ∧ ∃ i : Nat, i ≤ 8 ∧ F 4 = .int .i64 i ∧ Ots (h.size + 1) 3 iv 1 g (F 3) (metN top s i))
    (fun F _ => 8 - (vi (F 4)).toNat) rfl ⟨Bel.refl _ _, rfl, 0, by omega, rfl, Ots.nil _ _ _ _ _⟩ ?_
  rintro F g ⟨hg, f1, i, hi, f4, ho⟩
  have hgs := hg.size
  by_cases hlt : i < 8
  · have hlt' : (i : Int) < 8 := by omega
    have ni := bools_nth s i (by omega)
    have x2 : hc g ⟨h.size, 2, none⟩ = some (.int .i64 top) := by rw [hg.hc (by simp), hc_last x1]; rfl
    have xi : hc g ⟨h.size, 3 + i, none⟩ = some (.bool (s.getD i false)) := by
      rw [hg.hc (by simp), hc_last x1, ← ni, nth_eq, nth_eq, show 3 + i = i + 3 by omega]; rfl
    by_cases c1 : s.getD i false = true
    · rw [c1] at xi
      simp (config := {contextual := true, maxSteps := 2000000, implicitDefEqProofs := false}) only [go_sem, ↓reduceIte, Nat.reduceEqDiff, Nat.reduceAdd, Nat.reduceMul, Nat.reduceLeDiff, Nat.reduceLT, Nat.reduceSub, IntWalk.iteOmega, IntWalk.toNatUp, reduceCtorEq, Int.reduceLE, Int.reduceLT, Int.reduceToNat, Int.reduceNeg, f1, f4, hlt', xi, x2]
      refine append_ts (E := 3) (B := h.size + 1) (n := 1) (bytes := 8) tsl155 Tryd.underlying155 tn3 tz3 rfl tb3 (fun _ => rfl) (ho.push _) (by simp; omega) (Ts.one (enc := iv) (top - 8 + (i : Int)) (fun _ => rfl) 1) ?_ (by omega) ?_
      · have := metN_length top s i
        simp only [List.length_singleton]; omega
      intro v' h' ho' hb' _
      simp (config := {contextual := true, maxSteps := 2000000, implicitDefEqProofs := false}) only [go_sem, ↓reduceIte, Nat.reduceEqDiff, Nat.reduceAdd, Nat.reduceMul, Nat.reduceLeDiff, Nat.reduceLT, Nat.reduceSub, IntWalk.iteOmega, IntWalk.toNatUp, reduceCtorEq, Int.reduceLE, Int.reduceLT, Int.reduceToNat, Int.reduceNeg, f1, f4]
      refine ⟨⟨(hg.addP (by omega) _).trans hb', f1, i + 1, hlt, rfl, ?_⟩, ?_⟩
      · rw [metN_succ, if_pos c1]; exact ho'
      · simp only [vi, updo_some, ↓reduceIte, f4]; omega
    · have c1 : s.getD i false = false := by simpa using c1
      rw [c1] at xi
      simp (config := {contextual := true, maxSteps := 2000000, implicitDefEqProofs := false}) only [go_sem, ↓reduceIte, Nat.reduceEqDiff, Nat.reduceAdd, Nat.reduceMul, Nat.reduceLeDiff, Nat.reduceLT, Nat.reduceSub, IntWalk.iteOmega, IntWalk.toNatUp, reduceCtorEq, Int.reduceLE, Int.reduceLT, Int.reduceToNat, Int.reduceNeg, f1, f4, hlt', xi]
      refine ⟨⟨hg, f1, i + 1, hlt, rfl, ?_⟩, ?_⟩
      · rw [metN_succ, if_neg (by rw [c1]; decide), List.append_nil]; exact ho
      · simp only [vi, updo_some, ↓reduceIte, f4]; omega
  · have hge : ¬ (i : Int) < 8 := by omega
    obtain rfl : i = 8 := by omega
    simp (config := {contextual := true, maxSteps := 2000000, implicitDefEqProofs := false}) only [go_sem, ↓reduceIte, Nat.reduceEqDiff, Nat.reduceAdd, Nat.reduceMul, Nat.reduceLeDiff, Nat.reduceLT, Nat.reduceSub, IntWalk.iteOmega, IntWalk.toNatUp, reduceCtorEq, Int.reduceLE, Int.reduceLT, Int.reduceToNat, Int.reduceNeg, f1, f4, hge]
    exact ⟨ho.mono (by omega), hb.trans (hg.mono (by omega))⟩
/-- One more than the last number; nought, if there is none. -/
def topOf (l : List Int) : Int := match l.getLast? with | some x => x + 1 | none => 0
def seenOf (l : List Int) (t : Int) : List Bool := (List.range 8).map fun k : Nat => l.any fun x => x - t + 8 == (k : Int)
theorem seenOf_length (l : List Int) (t : Int) : (seenOf l t).length = 8 := by simp [seenOf]
theorem seenOf_snoc (l : List Int) (t x : Int) (hx : x - t + 8 < 8) : seenOf (l ++ [x]) t = if 0 ≤ x - t + 8 then (seenOf l t).set (x - t + 8).toNat true else seenOf l t := by
  apply List.ext_getElem
  · split <;> simp [seenOf]
  · intro k h1 h2
    have hk : k < 8 := by simpa [seenOf] using h1
    by_cases h0 : 0 ≤ x - t + 8
    · simp only [if_pos h0, List.getElem_set]
      by_cases e : (x - t + 8).toNat = k
      · rw [if_pos e]
        simp only [seenOf, List.getElem_map, List.getElem_range, List.any_append, List.any_cons, List.any_nil, Bool.or_false, Bool.or_eq_true]
        right
        simp only [beq_iff_eq]; omega
      · rw [if_neg e]
        simp only [seenOf, List.getElem_map, List.getElem_range, List.any_append, List.any_cons, List.any_nil, Bool.or_false]
        have : (x - t + 8 == (k : Int)) = false := by simp only [beq_eq_false_iff_ne, ne_eq]; omega
        rw [this, Bool.or_false]
    · simp only [if_neg h0]
      simp only [seenOf, List.getElem_map, List.getElem_range, List.any_append, List.any_cons, List.any_nil, Bool.or_false]
      have : (x - t + 8 == (k : Int)) = false := by simp only [beq_eq_false_iff_ne, ne_eq]; omega
      rw [this, Bool.or_false]
def chanZ : List Value := [.slice none 0 0, .int .i64 0, .int .i64 0, .bool false, .bool false, .bool false, .bool false, .bool false, .bool false, .bool false, .bool false]
theorem chan_set (k : Value) (sent top : Int) (s : List Bool) (i : Nat) : (chanC k sent top s).set (3 + i) (.bool true) = chanC k sent top (s.set i true) := by
  rw [show 3 + i = i + 1 + 1 + 1 by omega]
  simp [chanC, List.map_set]
theorem topOf_last (l : List Int) (hne : l ≠ []) : l.getD (l.length - 1) 0 + 1 = topOf l := by
  unfold topOf
  rw [List.getLast?_eq_getElem?, List.getD_eq_getElem?_getD, List.getElem?_eq_getElem (by have := List.length_pos_iff.2 hne; omega)]
  rfl
theorem iv_open {h : Hp} {v : Value} {l : List Int} (s : Ts iv 1 h v l) : ∃ p cap, v = .slice p l.length cap ∧ (l ≠ [] → ∃ b o, p = some ⟨b, o, none⟩ ∧ b < h.size ∧ ∀ i, i < l.length → hc h ⟨b, o + i, none⟩ = some (.int .i64 (l.getD i 0))) := by
  obtain ⟨p, cap, hv, hc1⟩ := Ts.open (enc := iv) (n := 1) (fun _ => rfl) Nat.one_ne_zero s
  refine ⟨p, cap, hv, fun hne => ?_⟩
  obtain ⟨b, o, hp, hb, hcs⟩ := hc1 hne
  refine ⟨b, o, hp, hb, fun i hi => ?_⟩
  have := (hcs i hi).hc (i := 0) rfl
  rw [Nat.mul_one, Nat.add_zero] at this
  rw [this, List.getD_eq_getElem?_getD, List.getElem?_eq_getElem hi]; rfl
def ChanRes (B : Nat) (h' : Hp) (v' : Value) (kl : List Nat) (sent top : Int) (s : List Bool) : Prop := ∃ w, v' = .agg (chanC w sent top s).toArray ∧ OBs B 5 h' w kl
theorem seenOf_nil (t : Int) : seenOf [] t = [false, false, false, false, false, false, false, false] := rfl
theorem channelOf_ok (T : World) (h : Hp) (v u : Value) (kl : List Nat) (sent : Int) (l : List Int) (sk : Bs h v kl) (hk : kl.length ≤ 1000) (sl : Ts iv 1 h u l) (hl : l.length ≤ 1000)
    (hr : ∀ x ∈ l, -1099511627776 ≤ x ∧ x ≤ 1099511627776 ∧ x < topOf l) :
    CallsH Tryd.prog T 154 #[v, .int .i64 sent, u] h fun v' h' => ChanRes h.size h' v' kl sent (topOf l) (seenOf l (topOf l)) ∧ Bel h.size h h' := by
  obtain ⟨p, c, rfl, hc1⟩ := iv_open sl
  refine CallsH.of_code' (args := [_, _, _]) Tryd.func154 rfl rfl rfl rfl ?_
  simp (config := {contextual := true, maxSteps := 2000000, implicitDefEqProofs := false}) only [go_sem, ↓reduceIte, Nat.reduceEqDiff, Nat.reduceAdd, Nat.reduceMul, Nat.reduceLeDiff, Nat.reduceLT, Nat.reduceSub, IntWalk.iteOmega, IntWalk.toNatUp, reduceCtorEq, Int.reduceLE, Int.reduceLT, Int.reduceToNat, Int.reduceNeg]
  refine (joined_ok T _ _ _ kl [] (sk.bel (Bel.push (Nat.le_refl _) _)) (OBs.nil 0 5 _).bs (by simp; omega)).use ?_
  rintro w h1 ⟨ow, b1⟩
  rw [List.append_nil] at ow
  have b1' : Bel (h.size + 1) _ h1 := b1.mono (by simp)
  have z1 : h.size + 1 ≤ h1.size := by have := b1.size; simp at this; omega
  have ow : OBs (h.size + 1) 5 h1 w kl := ow.mono (by simp)
  have x0 : h1[h.size]? = some (.cells chanZ.toArray 143) := b1'.get (by omega) (by rw [get_push_last]; rfl)
  have hbel1 : Bel h.size h h1 := ((Bel.refl h.size h).add _).trans (b1.mono (by simp))
  clear b1 b1'
  have x0' := x0
  unfold chanZ at x0'
  have wx := wr_get x0' 0
  obtain ⟨pw, cw, rfl, _⟩ := ow.open
  by_cases q : l = []
  · subst q
    unfold ChanRes chanC
    rw [seenOf_nil]
    have et : topOf [] = 0 := rfl
    rw [et]
    simp (config := {contextual := true, maxSteps := 2000000, implicitDefEqProofs := false}) only [go_sem, ↓reduceIte, Nat.reduceEqDiff, Nat.reduceAdd, Nat.reduceMul, Nat.reduceLeDiff, Nat.reduceLT, Nat.reduceSub, IntWalk.iteOmega, IntWalk.toNatUp, reduceCtorEq, Int.reduceLE, Int.reduceLT, Int.reduceToNat, Int.reduceNeg, wx]
    exact ⟨⟨_, rfl, ((ow.setLow (by omega) _).push _).mono (by omega)⟩, (hbel1.addSet (by omega) _).addP (by simp; omega) _⟩
  · obtain ⟨b, o, rfl, hb, hcs⟩ := hc1 q
    have hpos : 0 < l.length := List.length_pos_iff.2 q
    have q' : ¬ (l.length : Int) = 0 := by omega
    have hrl : ∀ i, i < l.length → -1099511627776 ≤ l.getD i 0 ∧ l.getD i 0 ≤ 1099511627776 ∧ l.getD i 0 < topOf l := by
      intro i hi
      have := hr (l.getD i 0) (by rw [List.getD_eq_getElem?_getD, List.getElem?_eq_getElem hi]; exact List.getElem_mem hi)
      exact this
    have el := topOf_last l q
    have bl := hrl (l.length - 1) (by omega)
    have xl : hc h1 ⟨b, o + (l.length - 1), none⟩ = some (.int .i64 (l.getD (l.length - 1) 0)) := by rw [hbel1.hc (by exact hb)]; exact hcs _ (by omega)
    have tn1 : ((l.length : Int) - 1).toNat = l.length - 1 := by omega
    have q2 : (l.length : Int) - 1 < l.length := by omega
    have q3 : 0 ≤ (l.length : Int) - 1 := by omega
    have bne : ¬ b = h1.size := by omega
    simp (config := {contextual := true, maxSteps := 2000000, implicitDefEqProofs := false}) only [go_sem, ↓reduceIte, Nat.reduceEqDiff, Nat.reduceAdd, Nat.reduceMul, Nat.reduceLeDiff, Nat.reduceLT, Nat.reduceSub, IntWalk.iteOmega, IntWalk.toNatUp, reduceCtorEq, Int.reduceLE, Int.reduceLT, Int.reduceToNat, Int.reduceNeg, q', xl, tn1, bne, el]
    obtain ⟨H, hH⟩ : ∃ H : Hp, H = h1.push (.cells [.slice pw kl.length cw, .int .i64 sent, .int .i64 (topOf l), .bool false, .bool false, .bool false, .bool false, .bool false, .bool false, .bool false, .bool false].toArray 143) := ⟨_, rfl⟩
    rw [← hH]
    have hbH : Bel h1.size h1 H := by rw [hH]; exact (Bel.refl _ _).add _
    have x1 : H[h1.size]? = some (.cells (chanC (.slice pw kl.length cw) sent (topOf l) (seenOf (l.take 0) (topOf l))).toArray 143) := by rw [hH]; exact get_push_last
    refine VS.loop' (fun F g => Bel h1.size h1 g ∧ F 2 = .slice (some ⟨b, o, none⟩) l.length c ∧ F 6 = .pointer (some ⟨h.size, 0, none⟩) ∧ F 7 = .pointer (some ⟨h1.size, 0, none⟩) ∧ ∃ i : Nat, i ≤ l.length ∧ F 8 = .int .i64 i ∧ g[h1.size]? = some (.cells (chanC (.slice pw kl.length cw) sent (topOf l) (seenOf (l.take i) (topOf l))).toArray 143))
      (fun F _ => l.length - (vi (F 8)).toNat) rfl ⟨hbH, rfl, rfl, rfl, 0, by omega, rfl, x1⟩ ?_
    clear x1 hbH hH H
    rintro F g ⟨hg, f2, f6, f7, i, hi, f8, hx⟩
    have hgs := lt_of_get hx
    by_cases hlt : i < l.length
    · have hlt' : (i : Int) < l.length := by omega
      have xi : hc g ⟨b, o + i, none⟩ = some (.int .i64 (l.getD i 0)) := by rw [hg.hc (by show b < h1.size; omega), hbel1.hc (by exact hb)]; exact hcs _ hlt
      have xt : hc g ⟨h1.size, 2, none⟩ = some (.int .i64 (topOf l)) := by rw [hc_last hx]; rfl
      have bi := hrl i hlt
      have ed : l.getD i 0 = l[i] := by rw [List.getD_eq_getElem?_getD, List.getElem?_eq_getElem hlt]; rfl
      have es := seenOf_snoc (l.take i) (topOf l) l[i] (by rw [← ed]; omega)
      rw [← take_snoc l i hlt, ← ed] at es
      simp (config := {contextual := true, maxSteps := 2000000, implicitDefEqProofs := false}) only [go_sem, ↓reduceIte, Nat.reduceEqDiff, Nat.reduceAdd, Nat.reduceMul, Nat.reduceLeDiff, Nat.reduceLT, Nat.reduceSub, IntWalk.iteOmega, IntWalk.toNatUp, reduceCtorEq, Int.reduceLE, Int.reduceLT, Int.reduceToNat, Int.reduceNeg, f2, f7, f8, hlt', xi, xt]
      refine VS.q mixed (by kernel_rfl) ?_
      by_cases c1 : 0 ≤ l.getD i 0 - topOf l + 8
      · rw [if_pos c1] at es
        have ws := wr1_get hx (3 + (l.getD i 0 - topOf l + 8).toNat) (.bool true)
        rw [chan_set, ← es, if_pos ⟨by simp only [chanC, List.length_cons, List.length_map, seenOf_length]; omega, rfl⟩] at ws
        simp (config := {contextual := true, maxSteps := 2000000, implicitDefEqProofs := false}) only [go_sem, ↓reduceIte, Nat.reduceEqDiff, Nat.reduceAdd, Nat.reduceMul, Nat.reduceLeDiff, Nat.reduceLT, Nat.reduceSub, IntWalk.iteOmega, IntWalk.toNatUp, reduceCtorEq, Int.reduceLE, Int.reduceLT, Int.reduceToNat, Int.reduceNeg, f2, f7, f8, xi, xt, c1, ws]
        refine ⟨⟨hg.addSet (Nat.le_refl _) _, f2, f6, f7, i + 1, hlt, rfl, ?_⟩, ?_⟩
        · rw [Array.getElem?_setIfInBounds, if_pos rfl, if_pos hgs]
        · simp only [vi, updo_some, ↓reduceIte, f8]; omega
      · rw [if_neg c1] at es
        simp (config := {contextual := true, maxSteps := 2000000, implicitDefEqProofs := false}) only [go_sem, ↓reduceIte, Nat.reduceEqDiff, Nat.reduceAdd, Nat.reduceMul, Nat.reduceLeDiff, Nat.reduceLT, Nat.reduceSub, IntWalk.iteOmega, IntWalk.toNatUp, reduceCtorEq, Int.reduceLE, Int.reduceLT, Int.reduceToNat, Int.reduceNeg, f2, f7, f8, xi, xt, c1]
        refine ⟨⟨hg, f2, f6, f7, i + 1, hlt, rfl, ?_⟩, ?_⟩
        · rw [es]; exact hx
        · simp only [vi, updo_some, ↓reduceIte, f8]; omega
    · have hge : ¬ (i : Int) < l.length := by omega
      obtain rfl : i = l.length := by omega
      rw [List.take_length] at hx
      have hl11 : (chanC (.slice pw kl.length cw) sent (topOf l) (seenOf l (topOf l))).length = 11 := by simp [chanC, seenOf]
      have hone : (chanC (.slice pw kl.length cw) sent (topOf l) (seenOf l (topOf l))).all oneC = true := by simp [chanC, oneC]
      have y1 := rd_last hx hl11
      have y0 : g[h.size]? = some (.cells chanZ.toArray 143) := hg.get (by omega) x0
      have y2 := wr_get y0 0 (chanC (.slice pw kl.length cw) sent (topOf l) (seenOf l (topOf l)))
      rw [lput_full (by rw [hl11]; rfl), if_pos ⟨by rw [hl11]; exact Nat.le_refl _, hone⟩] at y2
      obtain ⟨C, hC⟩ : ∃ C, C = chanC (.slice pw kl.length cw) sent (topOf l) (seenOf l (topOf l)) := ⟨_, rfl⟩
      have hC11 : C.length = 11 := by rw [hC]; exact hl11
      have tk := take_len hC11
      rw [← hC] at y1 y2
      have hz : h.size < g.size := by have := hg.size; omega
      simp (config := {contextual := true, maxSteps := 2000000, implicitDefEqProofs := false}) only [go_sem, ↓reduceIte, Nat.reduceEqDiff, Nat.reduceAdd, Nat.reduceMul, Nat.reduceLeDiff, Nat.reduceLT, Nat.reduceSub, IntWalk.iteOmega, IntWalk.toNatUp, reduceCtorEq, Int.reduceLE, Int.reduceLT, Int.reduceToNat, Int.reduceNeg, f2, f6, f7, f8, hge, y1, y2, hC11, tk]
      refine ⟨⟨_, by rw [hC], ?_⟩, (hbel1.trans (hg.mono (by omega))).addSet (Nat.le_refl _) _⟩
      exact ((ow.bel hg (Nat.le_refl _)).setLow (by omega) _).mono (by omega)
/-! the plain law: the two checks agree -/
theorem metN_mem {top : Int} {s : List Bool} {x : Int} : x ∈ metN top s 8 ↔ ∃ i, i < 8 ∧ s.getD i false = true ∧ x = top - 8 + (i : Int) := by
  unfold metN
  simp only [List.mem_map, List.mem_filter, List.mem_range]
  constructor
  · rintro ⟨i, ⟨h1, h2⟩, rfl⟩; exact ⟨i, h1, h2, rfl⟩
  · rintro ⟨i, h1, h2, rfl⟩; exact ⟨i, ⟨h1, h2⟩, rfl⟩
theorem metN_top (top : Int) (s : List Bool) : ∀ n, topOf (metN top s n) = 0 ∧ metN top s n = [] ∨ ∃ m, m < n ∧ s.getD m false = true ∧ topOf (metN top s n) = top - 7 + (m : Int) ∧ ∀ i, i < n → s.getD i false = true → i ≤ m := by
  intro n
  induction n with
  | zero => exact .inl ⟨rfl, rfl⟩
  | succ n ih =>
    rw [metN_succ]
    by_cases h : s.getD n false = true
    · rw [if_pos h]
      refine .inr ⟨n, by omega, h, ?_, fun i hi _ => by omega⟩
      unfold topOf
      rw [List.getLast?_append]
      simp; omega
    · rw [if_neg h, List.append_nil]
      rcases ih with ih | ⟨m, h1, h2, h3, h4⟩
      · exact .inl ih
      · refine .inr ⟨m, by omega, h2, h3, fun i hi hs => ?_⟩
        by_cases e : i = n
        · subst e; exact absurd hs h
        · exact h4 i (by omega) hs
theorem metN_below (top : Int) (s : List Bool) : ∀ x ∈ metN top s 8, x < topOf (metN top s 8) := by
  intro x hx
  rcases metN_top top s 8 with ⟨_, h⟩ | ⟨m, h1, h2, h3, h4⟩
  · rw [h] at hx; cases hx
  · obtain ⟨i, hi, hs, rfl⟩ := metN_mem.1 hx
    have := h4 i hi hs
    rw [h3]; omega
theorem metN_head {top : Int} {s : List Bool} : ∀ n, (metN top s n ≠ [] ∧ (metN top s n).getD 0 0 < 0) ↔ early top s n = true := by
  intro n
  induction n with
  | zero => simp [metN, early]
  | succ n ih =>
    rw [early_succ, metN_succ, Bool.or_eq_true, ← ih]
    by_cases h : s.getD n false = true
    · rw [if_pos h, h]
      by_cases he : metN top s n = []
      · rw [he]; simp
      · have e : (metN top s n ++ [top - 8 + (n : Int)]).getD 0 0 = (metN top s n).getD 0 0 := by
          have := List.length_pos_iff.2 he
          rw [List.getD_eq_getElem?_getD, List.getD_eq_getElem?_getD, List.getElem?_append_left this]
        rw [e]
        constructor
        · rintro ⟨_, h2⟩; exact .inl ⟨he, h2⟩
        · rintro (⟨_, h2⟩ | h2)
          · exact ⟨by simp, h2⟩
          · refine ⟨by simp, ?_⟩
            simp at h2
            have hm : (metN top s n).getD 0 0 ∈ metN top s n := by
              have := List.length_pos_iff.2 he
              rw [List.getD_eq_getElem?_getD, List.getElem?_eq_getElem this]; exact List.getElem_mem this
            unfold metN at hm
            simp only [List.mem_map, List.mem_filter, List.mem_range] at hm
            obtain ⟨i, ⟨hi, _⟩, e2⟩ := hm
            unfold metN
            omega
    · rw [if_neg h, List.append_nil]
      simp only [Bool.not_eq_true] at h
      rw [h]; simp
theorem seen_same {top : Int} {s : List Bool} (hs : s.length = 8) : seenOf (metN top s 8) top = s := by
  apply List.ext_getElem
  · rw [seenOf_length, hs]
  · intro k h1 h2
    have hk : k < 8 := by rw [hs] at h2; exact h2
    have e : s[k] = s.getD k false := by rw [List.getD_eq_getElem?_getD, List.getElem?_eq_getElem h2]; rfl
    simp only [seenOf, List.getElem_map, List.getElem_range]
    rw [e, Bool.eq_iff_iff, List.any_eq_true]
    constructor
    · rintro ⟨x, hx, he⟩
      obtain ⟨i, hi, hsi, rfl⟩ := metN_mem.1 hx
      simp only [beq_iff_eq] at he
      have : i = k := by omega
      subst this; exact hsi
    · intro h
      exact ⟨top - 8 + (k : Int), metN_mem.2 ⟨k, hk, h, rfl⟩, by simp only [beq_iff_eq]; omega⟩
theorem chan_law {sent top : Int} {s : List Bool} (hs : s.length = 8) (h1 : 0 ≤ sent) (h2 : sent ≤ 1073741824) (h3 : 0 ≤ top) (h4 : top ≤ 1073741824) :
    chanErr 32 sent top s = if early top s 8 = true ∨ topOf (metN top s 8) ≠ top ∨ seenOf (metN top s 8) (topOf (metN top s 8)) ≠ s then 5 else 0 := by
  unfold chanErr
  rw [if_neg (by omega)]
  by_cases he : early top s 8 = true
  · rw [if_pos he, if_pos (.inl he)]
  · rw [if_neg he]
    rcases metN_top top s 8 with ⟨t0, hn⟩ | ⟨m, m1, m2, m3, m4⟩
    · have none : ∀ i, i < 8 → s.getD i false = false := by
        intro i hi
        cases hv : s.getD i false with
        | false => rfl
        | true =>
          have : top - 8 + (i : Int) ∈ metN top s 8 := metN_mem.2 ⟨i, hi, hv, rfl⟩
          rw [hn] at this; cases this
      rw [t0]
      by_cases ht : top = 0
      · subst ht
        have := seen_same (top := 0) hs
        rw [if_neg (by omega), if_neg]
        rintro (h | h | h)
        · exact he h
        · exact h rfl
        · exact h this
      · rw [if_pos ⟨by omega, none 7 (by omega)⟩, if_pos (.inr (.inl (fun e => ht e.symm)))]
    · by_cases h7 : s.getD 7 false = true
      · have := m4 7 (by omega) h7
        have e : m = 7 := by omega
        subst e
        have et : topOf (metN top s 8) = top := by rw [m3]; omega
        rw [et, if_neg (by rintro ⟨_, h⟩; rw [h7] at h; cases h), if_neg]
        rintro (h | h | h)
        · exact he h
        · exact h rfl
        · exact h (seen_same hs)
      · have hm7 : m ≠ 7 := by intro e; subst e; exact h7 m2
        have htop : 0 < top := by
          by_cases h0 : 0 < top
          · exact h0
          · exact absurd (early_more (top := top) m1 m2 (by omega)) he
        rw [if_pos ⟨htop, by simpa using h7⟩, if_pos (.inr (.inl (by rw [m3]; omega)))]
/-! the other functions -/
theorem bools_fit : ∀ (s : List Bool), s.length = 8 → fitK [none, none, none, none, none, none, none, none] (s.map Value.bool) = true := by
  intro s hs
  match s, hs with
  | [_, _, _, _, _, _, _, _], _ => rfl
theorem bools_leq : ∀ (a b : List Bool), a.length = b.length → leq (a.map Value.bool) (b.map Value.bool) = decide (a = b) := by
  intro a
  induction a with
  | nil => intro b h; cases b with
    | nil => rfl
    | cons _ _ => simp at h
  | cons x a ih =>
    intro b h
    cases b with
    | nil => simp at h
    | cons y b =>
      simp only [List.map_cons, leq, ceq, ih b (by simpa using h)]
      by_cases e : x = y <;> simp [e]
theorem chanC_length (k : Value) (sent top : Int) (s : List Bool) (hs : s.length = 8) : (chanC k sent top s).length = 11 := by simp [chanC, hs]
theorem chanC_one {p : Option Addr} {n c : Nat} (sent top : Int) (s : List Bool) : (chanC (.slice p n c) sent top s).all oneC = true := by simp [chanC, oneC]
theorem chan_first (k w : Value) (sent top : Int) (s : List Bool) : (chanC k sent top s).set 0 w = chanC w sent top s := rfl
theorem chan_copy {h h2 : Hp} {kl : List Nat} {p : Option Addr} {c : Nat} {k : Value} {sent top : Int} {s : List Bool} (hs : s.length = 8) (b : Bel (h.size + 2) ((h.push (.cells (chanC k sent top s).toArray 143)).push (.cells chanZ.toArray 143)) h2) :
    wr1 h2 ⟨h.size, 0, none⟩ (.slice p kl.length c) = some (h2.setIfInBounds h.size (.cells (chanC (.slice p kl.length c) sent top s).toArray 143)) ∧ h2[h.size + 1]? = some (.cells chanZ.toArray 143) ∧ h.size + 2 ≤ h2.size := by
  have x0 : h2[h.size]? = some (.cells (chanC k sent top s).toArray 143) := b.get (by omega) (by rw [get_push_ne (by simp), get_push_last])
  have x1 : h2[h.size + 1]? = some (.cells chanZ.toArray 143) := b.get (by omega) (by have := get_push_last (h := h.push (.cells (chanC k sent top s).toArray 143)) (o := .cells chanZ.toArray 143); rw [Array.size_push] at this; exact this)
  have z := b.size
  simp at z
  refine ⟨?_, x1, by omega⟩
  rw [wr1_get x0, if_pos ⟨by rw [chanC_length _ _ _ _ hs]; omega, rfl⟩, chan_first]
theorem own_ok (T : World) (h : Hp) (k : Value) (kl : List Nat) (sent top : Int) (s : List Bool) (hs : s.length = 8) (sk : Bs h k kl) (hk : kl.length ≤ 140737488355328) :
    CallsH Tryd.prog T 150 #[.agg (chanC k sent top s).toArray] h fun v' h' => ChanRes h.size h' v' kl sent top s ∧ Bel h.size h h' := by
  obtain ⟨p, c, rfl, _⟩ := sk.open
  refine CallsH.of_code' (args := [_]) Tryd.func150 rfl rfl rfl rfl ?_
  have hs' : (s.map Value.bool).length = 8 := by rw [List.length_map, hs]
  unfold chanC
  simp (config := {contextual := true, maxSteps := 2000000, implicitDefEqProofs := false}) only [go_sem, ↓reduceIte, Nat.reduceEqDiff, Nat.reduceAdd, Nat.reduceMul, Nat.reduceLeDiff, Nat.reduceLT, Nat.reduceSub, IntWalk.iteOmega, IntWalk.toNatUp, reduceCtorEq, Int.reduceLE, Int.reduceLT, Int.reduceToNat, Int.reduceNeg]
  refine (clone_ok T _ _ kl (sk.bel ((Bel.refl h.size h).add _ |>.add _)) hk).use ?_
  rintro w h2 ⟨ow, b2⟩
  have b2' : Bel (h.size + 2) _ h2 := b2.mono (by simp)
  have hB : Bel h.size h h2 := ((Bel.refl h.size h).add _ |>.add _).trans (b2.mono (by simp; omega))
  obtain ⟨pw, cw, rfl, _⟩ := ow.open
  obtain ⟨y1, y2, y3⟩ := chan_copy (kl := kl) (p := pw) (c := cw) hs b2'
  have ow := ow.mono (B' := h.size + 2) (by simp)
  have y4 := wr_get y2 0 (chanC (.slice pw kl.length cw) sent top s)
  rw [lput_full (chanC_length _ _ _ _ hs), if_pos ⟨by rw [chanC_length _ _ _ _ hs]; exact Nat.le_refl _, chanC_one _ _ _⟩] at y4
  obtain ⟨C, hC⟩ : ∃ C, C = chanC (.slice pw kl.length cw) sent top s := ⟨_, rfl⟩
  have hC11 : C.length = 11 := by rw [hC]; exact chanC_length _ _ _ _ hs
  have tk := take_len hC11
  rw [← hC] at y1 y4
  have y5 := wr_get (h := h2.setIfInBounds h.size (.cells C.toArray 143)) (b := h.size + 1) (l := chanZ) (t := 143) (by rw [Array.getElem?_setIfInBounds, if_neg (by omega)]; exact y2) 0 C
  have hone : C.all oneC = true := by rw [hC]; exact chanC_one _ _ _
  rw [lput_full (by rw [hC11]; rfl), if_pos ⟨by rw [hC11]; exact Nat.le_refl _, hone⟩] at y5
  clear y4
  simp (config := {contextual := true, maxSteps := 2000000, implicitDefEqProofs := false}) only [go_sem, ↓reduceIte, Nat.reduceEqDiff, Nat.reduceAdd, Nat.reduceMul, Nat.reduceLeDiff, Nat.reduceLT, Nat.reduceSub, IntWalk.iteOmega, IntWalk.toNatUp, reduceCtorEq, Int.reduceLE, Int.reduceLT, Int.reduceToNat, Int.reduceNeg, y1, y5, hC11, tk]
  refine ⟨⟨_, by rw [hC], ?_⟩, (hB.addSet (by omega) _).addSet (by omega) _⟩
  exact ((ow.setLow (by omega) _).setLow (by omega) _).mono (by omega)
theorem channelFault_ok (T : World) (h : Hp) (k : Value) (kl : List Nat) (sent top : Int) (s : List Bool) (hs : s.length = 8) (sk : Bs h k kl) (hk : kl.length ≤ 140737488355328) (hsent : -9223372036854775808 ≤ sent ∧ sent ≤ 9223372036854775807) :
    CallsH Tryd.prog T 151 #[.agg (chanC k sent top s).toArray] h fun v' h' => v' = .int .i64 (chanErr kl.length sent top s) ∧ Bel h.size h h' := by
  obtain ⟨p, c, rfl, _⟩ := sk.open
  refine CallsH.of_code' (args := [_]) Tryd.func151 rfl rfl rfl rfl ?_
  have hs' : (s.map Value.bool).length = 8 := by rw [List.length_map, hs]
  have tk : (s.map Value.bool).take 8 = s.map Value.bool := take_len hs'
  unfold chanC
  by_cases q1 : (kl.length : Int) = 32
  · by_cases q2 : 0 ≤ sent ∧ sent ≤ 1073741824
    · by_cases q3 : 0 ≤ top ∧ top ≤ 1073741824
      · simp (config := {contextual := true, maxSteps := 2000000, implicitDefEqProofs := false}) only [go_sem, ↓reduceIte, Nat.reduceEqDiff, Nat.reduceAdd, Nat.reduceMul, Nat.reduceLeDiff, Nat.reduceLT, Nat.reduceSub, IntWalk.iteOmega, IntWalk.toNatUp, reduceCtorEq, Int.reduceLE, Int.reduceLT, Int.reduceToNat, Int.reduceNeg, q1]
        refine (in_ok T _ _ _ _).pure ?_
        simp (config := {contextual := true, maxSteps := 2000000, implicitDefEqProofs := false}) only [go_sem, ↓reduceIte, Nat.reduceEqDiff, Nat.reduceAdd, Nat.reduceMul, Nat.reduceLeDiff, Nat.reduceLT, Nat.reduceSub, IntWalk.iteOmega, IntWalk.toNatUp, reduceCtorEq, Int.reduceLE, Int.reduceLT, Int.reduceToNat, Int.reduceNeg, q2]
        refine (in_ok T _ _ _ _).pure ?_
        simp (config := {contextual := true, maxSteps := 2000000, implicitDefEqProofs := false}) only [go_sem, ↓reduceIte, Nat.reduceEqDiff, Nat.reduceAdd, Nat.reduceMul, Nat.reduceLeDiff, Nat.reduceLT, Nat.reduceSub, IntWalk.iteOmega, IntWalk.toNatUp, reduceCtorEq, Int.reduceLE, Int.reduceLT, Int.reduceToNat, Int.reduceNeg, q3, hs', tk]
        refine (metNumbers_ok T _ _ sent top s hs (by omega) (by omega)).use ?_
        rintro w1 h1 ⟨o1, b1⟩
        obtain ⟨pl, cl, rfl, _⟩ := o1.open
        have x1 : h1[h.size]? = some (.cells (chanC (.slice p kl.length c) sent top s).toArray 143) := b1.get (by simp) get_push_last
        unfold chanC at x1
        have x2 := hc_last (o := 0) x1
        have x3 := hc_last (o := 1) x1
        have x4 := hc_last (o := 2) x1
        have b1' : Bel h.size h h1 := ((Bel.refl h.size h).add _).trans (b1.mono (by simp))
        have o1 := o1.ts
        simp (config := {contextual := true, maxSteps := 2000000, implicitDefEqProofs := false}) only [go_sem, ↓reduceIte, Nat.reduceEqDiff, Nat.reduceAdd, Nat.reduceMul, Nat.reduceLeDiff, Nat.reduceLT, Nat.reduceSub, IntWalk.iteOmega, IntWalk.toNatUp, reduceCtorEq, Int.reduceLE, Int.reduceLT, Int.reduceToNat, Int.reduceNeg, x2, x3]
        refine (channelOf_ok T _ _ _ kl sent (metN top s 8) (sk.bel b1') (by omega) o1 (by have := metN_length top s 8; omega) ?_).use ?_
        · intro x hx
          have := metN_below top s x hx
          obtain ⟨i, hi, _, rfl⟩ := metN_mem.1 hx
          omega
        rintro w2 h2 ⟨⟨w3, rfl, o2⟩, b2⟩
        obtain ⟨p3, c3, rfl, _⟩ := o2.open
        obtain ⟨D, hD⟩ : ∃ D, D = chanC (.slice p3 kl.length c3) sent (topOf (metN top s 8)) (seenOf (metN top s 8) (topOf (metN top s 8))) := ⟨_, rfl⟩
        have hD11 : D.length = 11 := by rw [hD]; exact chanC_length _ _ _ _ (seenOf_length _ _)
        have hDone : D.all oneC = true := by rw [hD]; exact chanC_one _ _ _
        have hDl : lput chanZ 0 D = D := lput_full (by rw [hD11]; rfl)
        unfold chanZ at hDl
        rw [← hD]
        have x1' := b2.get (lt_of_get x1) x1
        have z1 := lt_of_get x1
        have z2 := b2.size
        have y4 : nth D 2 = some (.int .i64 (topOf (metN top s 8))) := by rw [hD]; rfl
        have y3 : (D.drop 3).take 8 = (seenOf (metN top s 8) (topOf (metN top s 8))).map Value.bool := by rw [hD]; exact take_len (l := (seenOf (metN top s 8) (topOf (metN top s 8))).map Value.bool) (by rw [List.length_map, seenOf_length])
        have w4 := hc_last (o := 2) x1'
        have w3 := rd_part (o := 3) (n := 8) x1' (by simp [hs])
        have f1 := bools_fit s hs
        have f4 := leq_self f1
        have f2 := bools_fit _ (seenOf_length (metN top s 8) (topOf (metN top s 8)))
        have f3 := bools_leq (seenOf (metN top s 8) (topOf (metN top s 8))) s (by rw [seenOf_length, hs])
        have law := chan_law (sent := sent) hs q2.1 q2.2 q3.1 q3.2
        have hk32 : kl.length = 32 := by omega
        rw [hk32, law]
        have hBel : Bel h.size h h2 := b1'.trans (b2.mono (by omega))
        have head := metN_head (top := top) (s := s) 8
        obtain ⟨pp, cc, hsl, hcs⟩ := iv_open (o1.bel b2)
        simp only [Value.slice.injEq] at hsl
        obtain ⟨rfl, _, rfl⟩ := hsl
        generalize metN top s 8 = L at *
        clear hD
        generalize seenOf L (topOf L) = S at *
        generalize topOf L = t' at *
        clear law
        by_cases c0 : L = []
        · have c0' : (L.length : Int) = 0 := by rw [c0]; rfl
          have ce : early top s 8 = false := by
            cases hv : early top s 8 with
            | false => rfl
            | true => exact absurd c0 (head.2 hv).1
          by_cases c2 : t' = top
          · by_cases c3 : S = s
            · simp (config := {contextual := true, maxSteps := 2000000, implicitDefEqProofs := false}) only [go_sem, ↓reduceIte, Nat.reduceEqDiff, Nat.reduceAdd, Nat.reduceMul, Nat.reduceLeDiff, Nat.reduceLT, Nat.reduceSub, IntWalk.iteOmega, IntWalk.toNatUp, reduceCtorEq, Int.reduceLE, Int.reduceLT, Int.reduceToNat, Int.reduceNeg, x2, x3, x4, hD11, hDone, hDl, c0', y4, y3, w4, w3, f1, f2, f3, f4, c2, c3, ce, tk]
              exact hBel.addP (by omega) _
            · simp (config := {contextual := true, maxSteps := 2000000, implicitDefEqProofs := false}) only [go_sem, ↓reduceIte, Nat.reduceEqDiff, Nat.reduceAdd, Nat.reduceMul, Nat.reduceLeDiff, Nat.reduceLT, Nat.reduceSub, IntWalk.iteOmega, IntWalk.toNatUp, reduceCtorEq, Int.reduceLE, Int.reduceLT, Int.reduceToNat, Int.reduceNeg, x2, x3, x4, hD11, hDone, hDl, c0', y4, y3, w4, w3, f1, f2, f3, f4, c2, c3, ce, tk]
              exact hBel.addP (by omega) _
          · simp (config := {contextual := true, maxSteps := 2000000, implicitDefEqProofs := false}) only [go_sem, ↓reduceIte, Nat.reduceEqDiff, Nat.reduceAdd, Nat.reduceMul, Nat.reduceLeDiff, Nat.reduceLT, Nat.reduceSub, IntWalk.iteOmega, IntWalk.toNatUp, reduceCtorEq, Int.reduceLE, Int.reduceLT, Int.reduceToNat, Int.reduceNeg, x2, x3, x4, hD11, hDone, hDl, c0', y4, w4, c2, ce, tk]
            exact hBel.addP (by omega) _
        · obtain ⟨bb, oo, rfl, hbb, hcs⟩ := hcs c0
          have hpos : 0 < L.length := List.length_pos_iff.2 c0
          have hpos' : 0 < (L.length : Int) := by omega
          have v0 := hcs 0 hpos
          rw [Nat.add_zero] at v0
          have bne : ¬ bb = h2.size := by omega
          have c0' : ¬ L.length = 0 := by omega
          by_cases c1 : L.getD 0 0 < 0
          · have ce : early top s 8 = true := head.1 ⟨c0, c1⟩
            simp (config := {contextual := true, maxSteps := 2000000, implicitDefEqProofs := false}) only [go_sem, ↓reduceIte, Nat.reduceEqDiff, Nat.reduceAdd, Nat.reduceMul, Nat.reduceLeDiff, Nat.reduceLT, Nat.reduceSub, IntWalk.iteOmega, IntWalk.toNatUp, reduceCtorEq, Int.reduceLE, Int.reduceLT, Int.reduceToNat, Int.reduceNeg, x2, x3, x4, hD11, hDone, hDl, hpos', v0, bne, c1, ce, tk]
            exact hBel.addP (by omega) _
          · have ce : early top s 8 = false := by
              cases hv : early top s 8 with
              | false => rfl
              | true => exact absurd (head.2 hv).2 c1
            by_cases c2 : t' = top
            · by_cases c3 : S = s
              · simp (config := {contextual := true, maxSteps := 2000000, implicitDefEqProofs := false}) only [go_sem, ↓reduceIte, Nat.reduceEqDiff, Nat.reduceAdd, Nat.reduceMul, Nat.reduceLeDiff, Nat.reduceLT, Nat.reduceSub, IntWalk.iteOmega, IntWalk.toNatUp, reduceCtorEq, Int.reduceLE, Int.reduceLT, Int.reduceToNat, Int.reduceNeg, x2, x3, x4, hD11, hDone, hDl, hpos', v0, bne, c1, y4, y3, w4, w3, f1, f2, f3, f4, c2, c3, ce, tk]
                exact hBel.addP (by omega) _
              · simp (config := {contextual := true, maxSteps := 2000000, implicitDefEqProofs := false}) only [go_sem, ↓reduceIte, Nat.reduceEqDiff, Nat.reduceAdd, Nat.reduceMul, Nat.reduceLeDiff, Nat.reduceLT, Nat.reduceSub, IntWalk.iteOmega, IntWalk.toNatUp, reduceCtorEq, Int.reduceLE, Int.reduceLT, Int.reduceToNat, Int.reduceNeg, x2, x3, x4, hD11, hDone, hDl, hpos', v0, bne, c1, y4, y3, w4, w3, f1, f2, f3, f4, c2, c3, ce, tk]
                exact hBel.addP (by omega) _
            · simp (config := {contextual := true, maxSteps := 2000000, implicitDefEqProofs := false}) only [go_sem, ↓reduceIte, Nat.reduceEqDiff, Nat.reduceAdd, Nat.reduceMul, Nat.reduceLeDiff, Nat.reduceLT, Nat.reduceSub, IntWalk.iteOmega, IntWalk.toNatUp, reduceCtorEq, Int.reduceLE, Int.reduceLT, Int.reduceToNat, Int.reduceNeg, x2, x3, x4, hD11, hDone, hDl, hpos', v0, bne, c1, y4, w4, c2, ce, tk]
              exact hBel.addP (by omega) _
      · have e : chanErr kl.length sent top s = 5 := by unfold chanErr; rw [if_pos (by omega)]
        rw [e]
        simp (config := {contextual := true, maxSteps := 2000000, implicitDefEqProofs := false}) only [go_sem, ↓reduceIte, Nat.reduceEqDiff, Nat.reduceAdd, Nat.reduceMul, Nat.reduceLeDiff, Nat.reduceLT, Nat.reduceSub, IntWalk.iteOmega, IntWalk.toNatUp, reduceCtorEq, Int.reduceLE, Int.reduceLT, Int.reduceToNat, Int.reduceNeg, q1]
        refine (in_ok T _ _ _ _).pure ?_
        simp (config := {contextual := true, maxSteps := 2000000, implicitDefEqProofs := false}) only [go_sem, ↓reduceIte, Nat.reduceEqDiff, Nat.reduceAdd, Nat.reduceMul, Nat.reduceLeDiff, Nat.reduceLT, Nat.reduceSub, IntWalk.iteOmega, IntWalk.toNatUp, reduceCtorEq, Int.reduceLE, Int.reduceLT, Int.reduceToNat, Int.reduceNeg, q2]
        refine (in_ok T _ _ _ _).pure ?_
        simp (config := {contextual := true, maxSteps := 2000000, implicitDefEqProofs := false}) only [go_sem, ↓reduceIte, Nat.reduceEqDiff, Nat.reduceAdd, Nat.reduceMul, Nat.reduceLeDiff, Nat.reduceLT, Nat.reduceSub, IntWalk.iteOmega, IntWalk.toNatUp, reduceCtorEq, Int.reduceLE, Int.reduceLT, Int.reduceToNat, Int.reduceNeg, q3]
        (repeat' (first | exact Bel.refl _ _ | assumption | refine Bel.add ?_ _ | refine Bel.addSet ?_ (by first | omega | (simp; omega)) _ | refine Bel.trans (by assumption) ?_))
    · have e : chanErr kl.length sent top s = 5 := by unfold chanErr; rw [if_pos (by omega)]
      rw [e]
      simp (config := {contextual := true, maxSteps := 2000000, implicitDefEqProofs := false}) only [go_sem, ↓reduceIte, Nat.reduceEqDiff, Nat.reduceAdd, Nat.reduceMul, Nat.reduceLeDiff, Nat.reduceLT, Nat.reduceSub, IntWalk.iteOmega, IntWalk.toNatUp, reduceCtorEq, Int.reduceLE, Int.reduceLT, Int.reduceToNat, Int.reduceNeg, q1]
      refine (in_ok T _ _ _ _).pure ?_
      simp (config := {contextual := true, maxSteps := 2000000, implicitDefEqProofs := false}) only [go_sem, ↓reduceIte, Nat.reduceEqDiff, Nat.reduceAdd, Nat.reduceMul, Nat.reduceLeDiff, Nat.reduceLT, Nat.reduceSub, IntWalk.iteOmega, IntWalk.toNatUp, reduceCtorEq, Int.reduceLE, Int.reduceLT, Int.reduceToNat, Int.reduceNeg, q2]
      (repeat' (first | exact Bel.refl _ _ | assumption | refine Bel.add ?_ _ | refine Bel.addSet ?_ (by first | omega | (simp; omega)) _ | refine Bel.trans (by assumption) ?_))
  · have e : chanErr kl.length sent top s = 5 := by unfold chanErr; rw [if_pos (by omega)]
    rw [e]
    simp (config := {contextual := true, maxSteps := 2000000, implicitDefEqProofs := false}) only [go_sem, ↓reduceIte, Nat.reduceEqDiff, Nat.reduceAdd, Nat.reduceMul, Nat.reduceLeDiff, Nat.reduceLT, Nat.reduceSub, IntWalk.iteOmega, IntWalk.toNatUp, reduceCtorEq, Int.reduceLE, Int.reduceLT, Int.reduceToNat, Int.reduceNeg, q1]
    (repeat' (first | exact Bel.refl _ _ | assumption | refine Bel.add ?_ _ | refine Bel.addSet ?_ (by first | omega | (simp; omega)) _ | refine Bel.trans (by assumption) ?_))
end Go.Proofs.YtnpacofabdgcdaaDoor
