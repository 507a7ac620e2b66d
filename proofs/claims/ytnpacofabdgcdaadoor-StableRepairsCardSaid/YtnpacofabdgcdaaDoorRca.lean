/- Records of a tape, told again: what the small functions compute; no condition but those in the statements. -/
import Derived.Test.YtnpacofabdgcdaaDoorSvt
import Derived.Test.YtnpacofabdgcdaaDoorSame
namespace Go.Proofs.YtnpacofabdgcdaaDoor
open Go Go.V
set_option linter.unusedSimpArgs false
set_option linter.unusedVariables false
set_option maxRecDepth 100000
structure Acp where
  p : Bal
  l : List Vt
def cmdAt (b : List Nat) : Vt → Vt := fun v => ⟨v.slot, v.b, be4 b 0, be4 b 4, be4 b 8, be4 b 12, be4 b 16⟩
def bodyS (a : Acp) (b : List Nat) : Option Acp :=
  if b.length = 9 ∧ b.getD 0 0 = 1 then (if prErr a.p a.l ⟨be4 b 1, be4 b 5⟩ = 0 then some ⟨⟨be4 b 1, be4 b 5⟩, a.l⟩ else none)
  else if b.length = 33 ∧ b.getD 0 0 = 2 then (if decErr (b.drop 13) ≠ 0 then none else
    if acErr a.p a.l (cmdAt (b.drop 13) ⟨be4 b 1, ⟨be4 b 5, be4 b 9⟩, 0, 0, 0, 0, 0⟩) = 0 then some ⟨⟨be4 b 5, be4 b 9⟩, insV a.l (cmdAt (b.drop 13) ⟨be4 b 1, ⟨be4 b 5, be4 b 9⟩, 0, 0, 0, 0, 0⟩)⟩ else none)
  else none
def BodyRes (B : Nat) (h' : Hp) (v' : Value) (a : Acp) (b : List Nat) : Prop := ∃ P p m c, v' = .tuple [.agg (accC P (.slice p m c)).toArray, .bool (bodyS a b).isSome].toArray ∧ ∀ x, bodyS a b = some x → P = x.p ∧ Ots B 80 voteC 8 h' (.slice p m c) x.l
theorem be4_drop (l : List Nat) (k i : Nat) : be4 (l.drop k) i = be4 l (k + i) := by
  have e : ∀ j, (l.drop k).getD j 0 = l.getD (k + j) 0 := fun j => by rw [List.getD_eq_getElem?_getD, List.getD_eq_getElem?_getD, List.getElem?_drop]
  unfold be4
  rw [e, e, e, e]; rfl
theorem get4_ok (T : World) (h : Hp) (v : Value) (l : List Nat) (s : Bs h v l) (hi : 4 ≤ l.length) (hl : l.length ≤ 140737488355328) :
    CallsH Tryd.prog T 143 #[v] h fun v' h' => v' = .int .i64 (be4 l 0 : Nat) ∧ h' = h := by
  obtain ⟨p, c, rfl, hc1⟩ := s.opend
  refine CallsH.of_code' (args := [_]) Tryd.func143 rfl rfl rfl rfl ?_
  obtain ⟨b, o, rfl, hb, hcs⟩ := hc1 (by intro e; subst e; simp at hi)
  have c0 := hcs 0 (by omega)
  have c1 := hcs 1 (by omega)
  have c2 := hcs 2 (by omega)
  have c3 := hcs 3 (by omega)
  have w0 := getD_byte s.byte 0
  have w1 := getD_byte s.byte 1
  have w2 := getD_byte s.byte 2
  have w3 := getD_byte s.byte 3
  have e4 := or4_i64 w0 w1 w2 w3
  have n0 : (0 : Int) < l.length := by omega
  have n1 : (1 : Int) < l.length := by omega
  have n2 : (2 : Int) < l.length := by omega
  have n3 : (3 : Int) < l.length := by omega
  rw [Nat.add_zero] at c0
  unfold be4
  rw [Nat.zero_add, Nat.zero_add, Nat.zero_add]
  generalize l.getD 0 0 = a0 at *
  generalize l.getD 1 0 = a1 at *
  generalize l.getD 2 0 = a2 at *
  generalize l.getD 3 0 = a3 at *
  simp (config := {maxSteps := 2000000, implicitDefEqProofs := false}) only [go_sem, ↓reduceIte, Nat.reduceEqDiff, Nat.reduceAdd, Nat.reduceMul, Nat.reduceLeDiff, Nat.reduceLT, Nat.reduceSub, IntWalk.iteOmega, IntWalk.toNatUp, reduceCtorEq, false_and, and_false, false_or, or_false, true_or, or_true, not_true_eq_false, not_false_eq_true, Bool.not_true, Bool.not_false, Bool.and_true, Bool.true_and, Bool.and_false, Bool.false_and, Bool.not_eq_true, beq_self_eq_true, Nat.add_zero, Int.reduceLE, Int.reduceLT, Int.reduceToNat, Int.reduceNeg]
  refine VS.q mixed (by kernel_rfl) ?_
  simp (config := {maxSteps := 2000000, implicitDefEqProofs := false}) only [go_sem, ↓reduceIte, Nat.reduceEqDiff, Nat.reduceAdd, Nat.reduceMul, Nat.reduceLeDiff, Nat.reduceLT, Nat.reduceSub, IntWalk.iteOmega, IntWalk.toNatUp, reduceCtorEq, false_and, and_false, false_or, or_false, true_or, or_true, not_true_eq_false, not_false_eq_true, Bool.not_true, Bool.not_false, Bool.and_true, Bool.true_and, Bool.and_false, Bool.false_and, Bool.not_eq_true, beq_self_eq_true, Nat.add_zero, Int.reduceLE, Int.reduceLT, Int.reduceToNat, Int.reduceNeg, c0, c1, c2, c3, n0, n1, n2, n3, e4]
  trace_state
end Go.Proofs.YtnpacofabdgcdaaDoor
namespace Go.Proofs.YtnpacofabdgcdaaDoor
open Go Go.V
set_option linter.unusedSimpArgs false
set_option linter.unusedVariables false
set_option maxRecDepth 100000
theorem get4d_ok (T : World) (h : Hp) (bb oo d d' m m0 : Nat) (b : List Nat) (k : Nat) (s : Bs h (.slice (some ⟨bb, oo, none⟩) m0 d) b) (hm0 : b.length = m0) (hk : k + 4 ≤ m0) (hm : m = m0 - k) (hl : m0 ≤ 100000) :
    CallsH Tryd.prog T 143 #[.slice (some ⟨bb, oo + k, none⟩) m d'] h fun v' h' => v' = .int .i64 (be4 b k : Nat) ∧ h' = h := by
  subst hm
  have s1 := bs_cutF s (k := k) (by omega) hm0 d'
  have := get4_ok T h _ (b.drop k) s1 (by rw [List.length_drop]; omega) (by rw [List.length_drop]; omega)
  rw [be4_drop] at this
  exact this
theorem fourHighI_ok (T : World) (h : Hp) (v : Value) (l : List Nat) (i : Nat) (z : Int) (hz : z = (i : Nat)) (s : Bs h v l) (hi : i + 4 ≤ l.length) (hl : l.length ≤ 140737488355328) :
    CallsH Tryd.prog T 81 #[v, .int .i64 z] h fun v' h' => v' = .int .i64 (be4 l i : Nat) ∧ h' = h := by
  subst hz; exact fourHigh_ok T h v l s i hi hl
theorem decC_cells (l : List Nat) (h : decErr l = 0) : decC l = [.int .i64 (be4 l 0), .int .i64 (be4 l 4), .int .i64 (be4 l 8), .int .i64 (be4 l 12), .int .i64 (be4 l 16)] := by
  unfold decC; rw [if_pos h]; rfl
theorem decC_none (l : List Nat) (h : ¬ decErr l = 0) : decC l = [.int .i64 0, .int .i64 0, .int .i64 0, .int .i64 0, .int .i64 0] := by
  unfold decC; rw [if_neg h]; rfl
set_option maxHeartbeats 1000000 in
theorem apply_ok (T : World) (h : Hp) (P : Bal) (pv : Option Addr) (cv : Nat) (l : List Vt) (q : Option Addr) (m d : Nat) (b : List Nat) (s : Ts voteC 8 h (.slice pv l.length cv) l) (sb : Bs h (.slice q m d) b) (hm : b.length = m) (hl : l.length ≤ 1000000) (hb : m ≤ 1000) (hd : m ≤ d) :
    CallsH Tryd.prog T 106 #[.agg (accC P (.slice pv l.length cv)).toArray, .slice q m d] h fun v' h' => BodyRes h.size h' v' ⟨P, l⟩ b ∧ Bel h.size h h' := by
  refine CallsH.of_code2 (args := [_, _]) Tryd.func106 rfl rfl rfl rfl ?_
  unfold accC
  simp (config := {maxSteps := 2000000, implicitDefEqProofs := false}) only [go_sem, ↓reduceIte, Nat.reduceEqDiff, Nat.reduceAdd, Nat.reduceMul, Nat.reduceLeDiff, Nat.reduceLT, Nat.reduceSub, IntWalk.iteOmega, IntWalk.toNatUp, reduceCtorEq, false_and, and_false, false_or, or_false, true_or, or_true, not_true_eq_false, not_false_eq_true, Bool.not_true, Bool.not_false, Bool.and_true, Bool.true_and, Bool.and_false, Bool.false_and, Bool.not_eq_true, beq_self_eq_true, Nat.add_zero, Int.reduceLE, Int.reduceLT, Int.reduceToNat, Int.reduceNeg]
  obtain ⟨h0, hh0⟩ : ∃ h0 : Hp, h0 = (h.push (.cells (accC P (.slice pv l.length cv)).toArray 85)).push (.cells [.int .i64 0, .int .i64 0, .slice none 0 0].toArray 85) := ⟨_, rfl⟩
  have b0 : Bel h.size h h0 := by rw [hh0]; exact ((Bel.refl _ _).add _).add _
  have s0 : h0.size = h.size + 2 := by rw [hh0]; simp
  have x0 : h0[h.size]? = some (.cells (accC P (.slice pv l.length cv)).toArray 85) := by
    rw [hh0, Array.getElem?_push, if_neg (by simp), get_push_last]
  have z0 : h0[h.size + 1]? = some (.cells [.int .i64 0, .int .i64 0, .slice none 0 0].toArray 85) := by
    rw [hh0, Array.getElem?_push, if_pos (by simp)]
  have e0 : (h.push (.cells #[Value.int .i64 P.r, .int .i64 P.n, .slice pv l.length cv] 85)).push (.cells #[Value.int .i64 0, .int .i64 0, .slice none 0 0] 85) = h0 := hh0.symm
  rw [e0]
  clear e0 hh0
  have fin : ∀ (G : Hp) (k : Nat) (w : List Value), w.length = 3 → w.all oneC = true → G[k]? = some (.cells [.int .i64 0, .int .i64 0, .slice none 0 0].toArray 85) → wr G ⟨k, 0, none⟩ w = some (G.setIfInBounds k (.cells w.toArray 85)) := by
    intro G k w h3 h1 hx
    rw [wr_get (b := k) hx 0 w, lput_full (by rw [h3]; rfl), if_pos ⟨by rw [h3]; simp, h1⟩]
  have sb0 := sb.bel b0
  have s0' := s.bel b0
  have r0 : rd h0 ⟨h.size, 0, none⟩ 3 = some [.int .i64 P.r, .int .i64 P.n, .slice pv l.length cv] := rd_last x0 rfl
  have k0 : h.size < h0.size := by omega
  have k1 : h.size + 1 < h0.size := by omega
  unfold BodyRes
  by_cases n9 : m = 9
  · subst n9
    have k9 : ((9 : Nat) : Int) = 9 := rfl
    obtain ⟨q', d', hv, hh⟩ := sb0.opend
    simp only [Value.slice.injEq] at hv
    obtain ⟨rfl, _, rfl⟩ := hv
    obtain ⟨bb, oo, rfl, hbb, hcs⟩ := hh (by intro e; subst e; simp at hm)
    have c0 := hcs 0 (by omega)
    rw [Nat.add_zero] at c0
    by_cases q1 : b.getD 0 0 = 1
    case neg =>
      have q1' : ¬ ((b.getD 0 0 : Nat) : Int) = 1 := by omega
      have e : bodyS ⟨P, l⟩ b = none := by
        unfold bodyS
        rw [if_neg (fun hn => q1 hn.2), if_neg (fun hn => by omega)]
      have wz := fin h0 (h.size + 1) [.int .i64 P.r, .int .i64 P.n, .slice pv l.length cv] rfl rfl z0
      simp (config := {maxSteps := 2000000, implicitDefEqProofs := false}) only [go_sem, ↓reduceIte, Nat.reduceEqDiff, Nat.reduceAdd, Nat.reduceMul, Nat.reduceLeDiff, Nat.reduceLT, Nat.reduceSub, IntWalk.iteOmega, IntWalk.toNatUp, reduceCtorEq, false_and, and_false, false_or, or_false, true_or, or_true, not_true_eq_false, not_false_eq_true, Bool.not_true, Bool.not_false, Bool.and_true, Bool.true_and, Bool.and_false, Bool.false_and, Bool.not_eq_true, beq_self_eq_true, Nat.add_zero, Int.reduceLE, Int.reduceLT, Int.reduceToNat, Int.reduceNeg, k9, c0, q1', e, r0, wz, k1]
      exact ⟨⟨P, pv, l.length, cv, rfl, by simp⟩, b0.addSet (by omega) _⟩
    rw [q1] at c0
    have e1 : ((1 : Nat) : Int) = 1 := rfl
    rw [e1] at c0
    obtain ⟨X, hX⟩ : ∃ X : Bal, X = ⟨be4 b 1, be4 b 5⟩ := ⟨_, rfl⟩
    have e : bodyS ⟨P, l⟩ b = if prErr P l X = 0 then some ⟨X, l⟩ else none := by
      unfold bodyS
      rw [if_pos ⟨hm, q1⟩, hX]
    have call : ∀ G, Ts voteC 8 G (.slice pv l.length cv) l → CallsH Tryd.prog T 89 #[.agg #[.int .i64 P.r, .int .i64 P.n, .slice pv l.length cv], .agg #[.int .i64 (be4 b 1 : Nat), .int .i64 (be4 b 5 : Nat)]] G fun v' h' => PrRes G.size h' v' P l X ∧ Bel G.size G h' := fun G sG => by
      rw [hX]; exact promise_ok T G P _ l _ sG (by omega)
    clear hX
    have d1 : ¬ d = 1 := by omega
    have d5 : ¬ d = 5 := by omega
    have sbx := sb0
    simp (config := {maxSteps := 2000000, implicitDefEqProofs := false}) only [go_sem, ↓reduceIte, Nat.reduceEqDiff, Nat.reduceAdd, Nat.reduceMul, Nat.reduceLeDiff, Nat.reduceLT, Nat.reduceSub, IntWalk.iteOmega, IntWalk.toNatUp, reduceCtorEq, false_and, and_false, false_or, or_false, true_or, or_true, not_true_eq_false, not_false_eq_true, Bool.not_true, Bool.not_false, Bool.and_true, Bool.true_and, Bool.and_false, Bool.false_and, Bool.not_eq_true, beq_self_eq_true, Nat.add_zero, Int.reduceLE, Int.reduceLT, Int.reduceToNat, Int.reduceNeg, k9, c0]
    refine VS.mono (N := fun F' g' => Bel h0.size h0 g' ∧ F' 4 = .pointer (some ⟨h.size + 1, 0, none⟩) ∧ F' 8 = .int .i64 (prErr P l X) ∧ ∃ A p1 c1, h0.size ≤ A ∧ F' 6 = .pointer (some ⟨A, 0, none⟩) ∧ g'[A]? = some (.cells (accC (if prErr P l X = 0 then X else ⟨0, 0⟩) (.slice p1 (if prErr P l X = 0 then l else []).length c1)).toArray 85) ∧ Ots h0.size 80 voteC 8 g' (.slice p1 (if prErr P l X = 0 then l else []).length c1) (if prErr P l X = 0 then l else [])) ?_ ?_ (fun _ _ _ h => h) (fun _ _ h => h)
    · refine VS.w (h0.size) [] (.q 0 (.q 1 (.q 2 (.q 4 (.q 5 (.or 3 (.or 6 (.q 7 (.or 8 (.q 9 (.q 10 (.q 11 (.q 12 (.s 13 (.s 14 (.q 15 (.q 16 .nil)))))))) (.s 13 (.s 8 (.q 9 (.q 10 (.q 11 (.q 12 (.s 14 (.q 15 (.q 16 .nil))))))))))) (.s 13 (.s 6 (.q 7 (.s 8 (.q 9 (.q 10 (.q 11 (.q 12 (.s 14 (.q 15 (.q 16 .nil)))))))))))) (.s 13 (.s 3 (.s 6 (.q 7 (.s 8 (.q 9 (.q 10 (.q 11 (.q 12 (.s 14 (.q 15 (.q 16 .nil)))))))))))))))))) mixed (by kernel_rfl) ?_
      simp (config := {maxSteps := 2000000, implicitDefEqProofs := false}) only [go_sem, ↓reduceIte, Nat.reduceEqDiff, Nat.reduceAdd, Nat.reduceMul, Nat.reduceLeDiff, Nat.reduceLT, Nat.reduceSub, IntWalk.iteOmega, IntWalk.toNatUp, reduceCtorEq, false_and, and_false, false_or, or_false, true_or, or_true, not_true_eq_false, not_false_eq_true, Bool.not_true, Bool.not_false, Bool.and_true, Bool.true_and, Bool.and_false, Bool.false_and, Bool.not_eq_true, beq_self_eq_true, Nat.add_zero, Int.reduceLE, Int.reduceLT, Int.reduceToNat, Int.reduceNeg, r0, k0, k9, d1, d5, c0, Int.toNat_natCast]
      repeat' (first
          | with_reducible exact Bel.refl _ _
          | with_reducible exact Bel.push (by omega) _
          | (with_reducible refine (get4d_ok T _ bb oo d _ _ _ b 1 (by first | exact sbx | exact sbx.bel (Bel.push (Nat.le_refl _) _)) hm (by omega) rfl (by omega)).pure ?_; simp (config := {maxSteps := 2000000, implicitDefEqProofs := false}) only [go_sem, ↓reduceIte, Nat.reduceEqDiff, Nat.reduceAdd, Nat.reduceMul, Nat.reduceLeDiff, Nat.reduceLT, Nat.reduceSub, IntWalk.iteOmega, IntWalk.toNatUp, reduceCtorEq, false_and, and_false, false_or, or_false, true_or, or_true, not_true_eq_false, not_false_eq_true, Bool.not_true, Bool.not_false, Bool.and_true, Bool.true_and, Bool.and_false, Bool.false_and, Bool.not_eq_true, beq_self_eq_true, Nat.add_zero, Int.reduceLE, Int.reduceLT, Int.reduceToNat, Int.reduceNeg, r0, k0, c0, Int.toNat_natCast])
          | (with_reducible refine (get4d_ok T _ bb oo d _ _ _ b 5 (by first | exact sbx | exact sbx.bel (Bel.push (Nat.le_refl _) _)) hm (by omega) rfl (by omega)).pure ?_; simp (config := {maxSteps := 2000000, implicitDefEqProofs := false}) only [go_sem, ↓reduceIte, Nat.reduceEqDiff, Nat.reduceAdd, Nat.reduceMul, Nat.reduceLeDiff, Nat.reduceLT, Nat.reduceSub, IntWalk.iteOmega, IntWalk.toNatUp, reduceCtorEq, false_and, and_false, false_or, or_false, true_or, or_true, not_true_eq_false, not_false_eq_true, Bool.not_true, Bool.not_false, Bool.and_true, Bool.true_and, Bool.and_false, Bool.false_and, Bool.not_eq_true, beq_self_eq_true, Nat.add_zero, Int.reduceLE, Int.reduceLT, Int.reduceToNat, Int.reduceNeg, r0, k0, c0, Int.toNat_natCast])
          | with_reducible refine And.intro ?_ ?_)
      all_goals first
        | (refine (call h0 s0').use ?_
           rintro _ g1 ⟨⟨w1, w2, rfl, o1, o2⟩, b1⟩
           obtain ⟨p1, c1, rfl, _⟩ := o1.open
           obtain ⟨p2, c2, rfl, _⟩ := o2.open
           generalize (if prErr P l X = 0 then X else ⟨0, 0⟩) = Y at *
           generalize (if prErr P l X = 0 then l else []) = L at *
           generalize prErr P l X = E at *
           have s1 := b1.size
           unfold accC
           simp (config := {maxSteps := 2000000, implicitDefEqProofs := false}) only [go_sem, ↓reduceIte, Nat.reduceEqDiff, Nat.reduceAdd, Nat.reduceMul, Nat.reduceLeDiff, Nat.reduceLT, Nat.reduceSub, IntWalk.iteOmega, IntWalk.toNatUp, reduceCtorEq, false_and, and_false, false_or, or_false, true_or, or_true, not_true_eq_false, not_false_eq_true, Bool.not_true, Bool.not_false, Bool.and_true, Bool.true_and, Bool.and_false, Bool.false_and, Bool.not_eq_true, beq_self_eq_true, Nat.add_zero, Int.reduceLE, Int.reduceLT, Int.reduceToNat, Int.reduceNeg, b1]
           exact ⟨_, _, _, s1, rfl, get_push_last, o1.push _⟩)
        | (refine (call (h0.push (.cells [.int .i64 0, .int .i64 0, .slice none 0 0].toArray 85)) (s0'.bel (Bel.push (Nat.le_refl _) _))).use ?_
           rintro _ g1 ⟨⟨w1, w2, rfl, o1, o2⟩, b1⟩
           obtain ⟨p1, c1, rfl, _⟩ := o1.open
           obtain ⟨p2, c2, rfl, _⟩ := o2.open
           generalize (if prErr P l X = 0 then X else ⟨0, 0⟩) = Y at *
           generalize (if prErr P l X = 0 then l else []) = L at *
           generalize prErr P l X = E at *
           have B1 : Bel h0.size h0 g1 := (Bel.push (Nat.le_refl _) _).trans (b1.mono (by simp))
           have xA := b1.get (by simp) get_push_last
           have yA := fin g1 h0.size [.int .i64 Y.r, .int .i64 Y.n, .slice p1 L.length c1] rfl rfl xA
           have hz := lt_of_get xA
           unfold accC
           simp (config := {maxSteps := 2000000, implicitDefEqProofs := false}) only [go_sem, ↓reduceIte, Nat.reduceEqDiff, Nat.reduceAdd, Nat.reduceMul, Nat.reduceLeDiff, Nat.reduceLT, Nat.reduceSub, IntWalk.iteOmega, IntWalk.toNatUp, reduceCtorEq, false_and, and_false, false_or, or_false, true_or, or_true, not_true_eq_false, not_false_eq_true, Bool.not_true, Bool.not_false, Bool.and_true, Bool.true_and, Bool.and_false, Bool.false_and, Bool.not_eq_true, beq_self_eq_true, Nat.add_zero, Int.reduceLE, Int.reduceLT, Int.reduceToNat, Int.reduceNeg, B1, yA, hz]
           exact ⟨_, _, _, Nat.le_refl _, rfl, get_set xA, (o1.setLow (b := h0.size) (by simp) _).mono (by simp)⟩)
    · rintro F' g' ⟨hB, f4, f8, A, p1, c1, hA, f6, xA, oA⟩
      have z1 := hB.get (by omega) z0
      have k1' := lt_of_get z1
      have rA : rd g' ⟨A, 0, none⟩ 3 = _ := rd_last xA rfl
      generalize hY : (if prErr P l X = 0 then X else ⟨0, 0⟩) = Y at *
      generalize hL : (if prErr P l X = 0 then l else []) = L at *
      generalize prErr P l X = E at *
      unfold accC at rA
      have wz := fin g' (h.size + 1) [.int .i64 Y.r, .int .i64 Y.n, .slice p1 L.length c1] rfl rfl z1
      have bb' : Bel h.size h (g'.setIfInBounds (h.size + 1) (.cells [.int .i64 Y.r, .int .i64 Y.n, .slice p1 L.length c1].toArray 85)) := (b0.trans (hB.mono (by omega))).addSet (by omega) _
      by_cases q : E = 0
      · rw [if_pos q] at e hY hL
        simp (config := {maxSteps := 2000000, implicitDefEqProofs := false}) only [go_sem, ↓reduceIte, Nat.reduceEqDiff, Nat.reduceAdd, Nat.reduceMul, Nat.reduceLeDiff, Nat.reduceLT, Nat.reduceSub, IntWalk.iteOmega, IntWalk.toNatUp, reduceCtorEq, false_and, and_false, false_or, or_false, true_or, or_true, not_true_eq_false, not_false_eq_true, Bool.not_true, Bool.not_false, Bool.and_true, Bool.true_and, Bool.and_false, Bool.false_and, Bool.not_eq_true, beq_self_eq_true, Nat.add_zero, Int.reduceLE, Int.reduceLT, Int.reduceToNat, Int.reduceNeg, f4, f6, f8, rA, wz, k1', q, e]
        refine ⟨⟨Y, p1, L.length, c1, rfl, fun x hx => ?_⟩, bb'⟩
        cases hx
        exact ⟨hY.symm, by rw [hL]; exact (oA.setLow (by omega) _).mono (by omega)⟩
      · rw [if_neg q] at e
        simp (config := {maxSteps := 2000000, implicitDefEqProofs := false}) only [go_sem, ↓reduceIte, Nat.reduceEqDiff, Nat.reduceAdd, Nat.reduceMul, Nat.reduceLeDiff, Nat.reduceLT, Nat.reduceSub, IntWalk.iteOmega, IntWalk.toNatUp, reduceCtorEq, false_and, and_false, false_or, or_false, true_or, or_true, not_true_eq_false, not_false_eq_true, Bool.not_true, Bool.not_false, Bool.and_true, Bool.true_and, Bool.and_false, Bool.false_and, Bool.not_eq_true, beq_self_eq_true, Nat.add_zero, Int.reduceLE, Int.reduceLT, Int.reduceToNat, Int.reduceNeg, f4, f6, f8, rA, wz, k1', q, e]
        exact ⟨⟨Y, p1, L.length, c1, rfl, by simp⟩, bb'⟩
  have n9' : ¬ (m : Int) = 9 := by omega
  by_cases n33 : m = 33
  case neg =>
    have n33' : ¬ (m : Int) = 33 := by omega
    have e : bodyS ⟨P, l⟩ b = none := by
      unfold bodyS
      rw [if_neg (fun hn => by omega), if_neg (fun hn => by omega)]
    have wz := fin h0 (h.size + 1) [.int .i64 P.r, .int .i64 P.n, .slice pv l.length cv] rfl rfl z0
    simp (config := {maxSteps := 2000000, implicitDefEqProofs := false}) only [go_sem, ↓reduceIte, Nat.reduceEqDiff, Nat.reduceAdd, Nat.reduceMul, Nat.reduceLeDiff, Nat.reduceLT, Nat.reduceSub, IntWalk.iteOmega, IntWalk.toNatUp, reduceCtorEq, false_and, and_false, false_or, or_false, true_or, or_true, not_true_eq_false, not_false_eq_true, Bool.not_true, Bool.not_false, Bool.and_true, Bool.true_and, Bool.and_false, Bool.false_and, Bool.not_eq_true, beq_self_eq_true, Nat.add_zero, Int.reduceLE, Int.reduceLT, Int.reduceToNat, Int.reduceNeg, n9', n33', e, r0, wz, k1]
    exact ⟨⟨P, pv, l.length, cv, rfl, by simp⟩, b0.addSet (by omega) _⟩
  subst n33
  have k33 : ((33 : Nat) : Int) = 33 := rfl
  clear n9'
  obtain ⟨q', d', hv, hh⟩ := sb0.opend
  simp only [Value.slice.injEq] at hv
  obtain ⟨rfl, _, rfl⟩ := hv
  obtain ⟨bb, oo, rfl, hbb, hcs⟩ := hh (by intro e; subst e; simp at hm)
  have c0 := hcs 0 (by omega)
  rw [Nat.add_zero] at c0
  by_cases q2 : b.getD 0 0 = 2
  case neg =>
    have q2' : ¬ ((b.getD 0 0 : Nat) : Int) = 2 := by omega
    have e : bodyS ⟨P, l⟩ b = none := by
      unfold bodyS
      rw [if_neg (fun hn => by omega), if_neg (fun hn => q2 hn.2)]
    have wz := fin h0 (h.size + 1) [.int .i64 P.r, .int .i64 P.n, .slice pv l.length cv] rfl rfl z0
    simp (config := {maxSteps := 2000000, implicitDefEqProofs := false}) only [go_sem, ↓reduceIte, Nat.reduceEqDiff, Nat.reduceAdd, Nat.reduceMul, Nat.reduceLeDiff, Nat.reduceLT, Nat.reduceSub, IntWalk.iteOmega, IntWalk.toNatUp, reduceCtorEq, false_and, and_false, false_or, or_false, true_or, or_true, not_true_eq_false, not_false_eq_true, Bool.not_true, Bool.not_false, Bool.and_true, Bool.true_and, Bool.and_false, Bool.false_and, Bool.not_eq_true, beq_self_eq_true, Nat.add_zero, Int.reduceLE, Int.reduceLT, Int.reduceToNat, Int.reduceNeg, k33, c0, q2', e, r0, wz, k1]
    exact ⟨⟨P, pv, l.length, cv, rfl, by simp⟩, b0.addSet (by omega) _⟩
  rw [q2] at c0
  have e2 : ((2 : Nat) : Int) = 2 := rfl
  rw [e2] at c0
  have d13 : ¬ d = 13 := by omega
  have d33 : (33 : Int) ≤ (d : Int) := by omega
  have s13 := fun c' => bs_cutF sb0 (k := 13) (by omega) hm c'
  simp (config := {maxSteps := 2000000, implicitDefEqProofs := false}) only [go_sem, ↓reduceIte, Nat.reduceEqDiff, Nat.reduceAdd, Nat.reduceMul, Nat.reduceLeDiff, Nat.reduceLT, Nat.reduceSub, IntWalk.iteOmega, IntWalk.toNatUp, reduceCtorEq, false_and, and_false, false_or, or_false, true_or, or_true, not_true_eq_false, not_false_eq_true, Bool.not_true, Bool.not_false, Bool.and_true, Bool.true_and, Bool.and_false, Bool.false_and, Bool.not_eq_true, beq_self_eq_true, Nat.add_zero, Int.reduceLE, Int.reduceLT, Int.reduceToNat, Int.reduceNeg, k33, c0, d13, d33, Int.toNat_natCast]
  refine (decode_ok T h0 _ (b.drop 13) (s13 _) (by rw [List.length_drop]; omega)).use ?_
  rintro _ g ⟨rfl, bg⟩
  have sg := bg.size
  by_cases q3 : decErr (b.drop 13) = 0
  case neg =>
    have e : bodyS ⟨P, l⟩ b = none := by
      unfold bodyS
      rw [if_neg (fun hn => by omega), if_pos ⟨hm, q2⟩, if_pos q3]
    rw [decC_none _ q3]
    have zg := bg.get k1 z0
    have xg := bg.get k0 x0
    have rg : rd g ⟨h.size, 0, none⟩ 3 = some [.int .i64 P.r, .int .i64 P.n, .slice pv l.length cv] := rd_last xg rfl
    have wz := fin g (h.size + 1) [.int .i64 P.r, .int .i64 P.n, .slice pv l.length cv] rfl rfl zg
    have hne0 : ¬ h.size = g.size := by omega
    have hne1 : ¬ h.size + 1 = g.size := by omega
    have hlt1 : h.size + 1 < g.size := by omega
    simp (config := {maxSteps := 2000000, implicitDefEqProofs := false}) only [go_sem, ↓reduceIte, Nat.reduceEqDiff, Nat.reduceAdd, Nat.reduceMul, Nat.reduceLeDiff, Nat.reduceLT, Nat.reduceSub, IntWalk.iteOmega, IntWalk.toNatUp, reduceCtorEq, false_and, and_false, false_or, or_false, true_or, or_true, not_true_eq_false, not_false_eq_true, Bool.not_true, Bool.not_false, Bool.and_true, Bool.true_and, Bool.and_false, Bool.false_and, Bool.not_eq_true, beq_self_eq_true, Nat.add_zero, Int.reduceLE, Int.reduceLT, Int.reduceToNat, Int.reduceNeg, q3, e, rg, wz, hne0, hne1, hlt1]
    exact ⟨⟨P, pv, l.length, cv, rfl, by simp⟩, ((b0.trans (bg.mono (by omega))).addSet (by omega) _).addP (by simp; omega) _⟩
  rw [decC_cells _ q3, q3]
  obtain ⟨X, hX⟩ : ∃ X : Vt, X = cmdAt (b.drop 13) ⟨be4 b 1, ⟨be4 b 5, be4 b 9⟩, 0, 0, 0, 0, 0⟩ := ⟨_, rfl⟩
  have e : bodyS ⟨P, l⟩ b = if acErr P l X = 0 then some ⟨X.b, insV l X⟩ else none := by
    unfold bodyS
    rw [if_neg (fun hn => by omega), if_pos ⟨hm, q2⟩, if_neg (fun hn => hn q3), ← hX]
    rw [show (⟨((be4 b 5 : Nat) : Int), ((be4 b 9 : Nat) : Int)⟩ : Bal) = X.b by rw [hX]; rfl]
  have call : ∀ G, Ts voteC 8 G (.slice pv l.length cv) l → CallsH Tryd.prog T 102 #[.agg #[.int .i64 P.r, .int .i64 P.n, .slice pv l.length cv], .agg #[.int .i64 (be4 b 1 : Nat), .int .i64 (be4 b 5 : Nat), .int .i64 (be4 b 9 : Nat), .int .i64 (be4 (b.drop 13) 0 : Nat), .int .i64 (be4 (b.drop 13) 4 : Nat), .int .i64 (be4 (b.drop 13) 8 : Nat), .int .i64 (be4 (b.drop 13) 12 : Nat), .int .i64 (be4 (b.drop 13) 16 : Nat)]] G fun v' h' => AcRes G.size h' v' P l X ∧ Bel G.size G h' := fun G sG => by
    rw [hX]; exact accept_ok T G P _ l _ sG (by omega)
  clear hX
  generalize be4 (b.drop 13) 0 = y0 at *
  generalize be4 (b.drop 13) 4 = y4 at *
  generalize be4 (b.drop 13) 8 = y8 at *
  generalize be4 (b.drop 13) 12 = y12 at *
  generalize be4 (b.drop 13) 16 = y16 at *
  obtain ⟨h1, hh1⟩ : ∃ h1 : Hp, h1 = g.push (.cells [.int .i64 (y0 : Nat), .int .i64 (y4 : Nat), .int .i64 (y8 : Nat), .int .i64 (y12 : Nat), .int .i64 (y16 : Nat)].toArray 25) := ⟨_, rfl⟩
  have e1 : g.push (.cells #[Value.int .i64 (y0 : Nat), .int .i64 (y4 : Nat), .int .i64 (y8 : Nat), .int .i64 (y12 : Nat), .int .i64 (y16 : Nat)] 25) = h1 := hh1.symm
  simp (config := {maxSteps := 2000000, implicitDefEqProofs := false}) only [go_sem, ↓reduceIte, Nat.reduceEqDiff, Nat.reduceAdd, Nat.reduceMul, Nat.reduceLeDiff, Nat.reduceLT, Nat.reduceSub, IntWalk.iteOmega, IntWalk.toNatUp, reduceCtorEq, false_and, and_false, false_or, or_false, true_or, or_true, not_true_eq_false, not_false_eq_true, Bool.not_true, Bool.not_false, Bool.and_true, Bool.true_and, Bool.and_false, Bool.false_and, Bool.not_eq_true, beq_self_eq_true, Nat.add_zero, Int.reduceLE, Int.reduceLT, Int.reduceToNat, Int.reduceNeg]
  rw [e1]
  have b1 : Bel h0.size h0 h1 := by rw [hh1]; exact bg.addP sg _
  have s1h : h1.size = g.size + 1 := by rw [hh1]; simp
  have c1h : h1[g.size]? = some (.cells [.int .i64 (y0 : Nat), .int .i64 (y4 : Nat), .int .i64 (y8 : Nat), .int .i64 (y12 : Nat), .int .i64 (y16 : Nat)].toArray 25) := by rw [hh1]; exact get_push_last
  clear e1 hh1
  have x1 := b1.get k0 x0
  have z1h := b1.get k1 z0
  have r1 : rd h1 ⟨h.size, 0, none⟩ 3 = some [.int .i64 P.r, .int .i64 P.n, .slice pv l.length cv] := rd_last x1 rfl
  have rc1 : rd h1 ⟨g.size, 0, none⟩ 5 = some [.int .i64 (y0 : Nat), .int .i64 (y4 : Nat), .int .i64 (y8 : Nat), .int .i64 (y12 : Nat), .int .i64 (y16 : Nat)] := rd_last c1h rfl
  have c0h : hc h1 ⟨bb, oo, none⟩ = some (.int .u8 2) := by rw [b1.hc (by exact hbb)]; exact c0
  have k0h : h.size < h1.size := by omega
  have kch : g.size < h1.size := by omega
  have sbx := sb0.bel b1
  have s1' := s0'.bel b1
  have d1 : ¬ d = 1 := by omega
  have d5 : ¬ d = 5 := by omega
  have d9 : ¬ d = 9 := by omega
  have B1 : Bel h.size h h1 := b0.trans (b1.mono (by omega))
  refine VS.mono (N := fun F' g' => Bel h1.size h1 g' ∧ F' 4 = .pointer (some ⟨h.size + 1, 0, none⟩) ∧ F' 10 = .int .i64 (acErr P l X) ∧ ∃ A p1 c1, h1.size ≤ A ∧ F' 11 = .pointer (some ⟨A, 0, none⟩) ∧ g'[A]? = some (.cells (accC (if acErr P l X = 0 then X.b else ⟨0, 0⟩) (.slice p1 (if acErr P l X = 0 then insV l X else []).length c1)).toArray 85) ∧ Ots h1.size 80 voteC 8 g' (.slice p1 (if acErr P l X = 0 then insV l X else []).length c1) (if acErr P l X = 0 then insV l X else [])) ?_ ?_ (fun _ _ _ h => h) (fun _ _ h => h)
  · refine VS.w (h1.size) [] (.q 0 (.q 1 (.q 2 (.q 4 (.q 5 (.q 7 (.q 8 (.q 11 (.or 3 (.or 6 (.or 9 (.q 10 (.q 12 (.or 13 (.q 14 (.q 15 (.q 16 (.s 17 (.s 18 (.q 19 .nil)))))) (.s 17 (.s 13 (.q 14 (.q 15 (.q 16 (.s 18 (.q 19 .nil)))))))))) (.s 17 (.s 9 (.q 10 (.q 12 (.s 13 (.q 14 (.q 15 (.q 16 (.s 18 (.q 19 .nil))))))))))) (.s 17 (.s 6 (.s 9 (.q 10 (.q 12 (.s 13 (.q 14 (.q 15 (.q 16 (.s 18 (.q 19 .nil)))))))))))) (.s 17 (.s 3 (.s 6 (.s 9 (.q 10 (.q 12 (.s 13 (.q 14 (.q 15 (.q 16 (.s 18 (.q 19 .nil))))))))))))))))))))) mixed (by kernel_rfl) ?_
    simp (config := {maxSteps := 2000000, implicitDefEqProofs := false}) only [go_sem, ↓reduceIte, Nat.reduceEqDiff, Nat.reduceAdd, Nat.reduceMul, Nat.reduceLeDiff, Nat.reduceLT, Nat.reduceSub, IntWalk.iteOmega, IntWalk.toNatUp, reduceCtorEq, false_and, and_false, false_or, or_false, true_or, or_true, not_true_eq_false, not_false_eq_true, Bool.not_true, Bool.not_false, Bool.and_true, Bool.true_and, Bool.and_false, Bool.false_and, Bool.not_eq_true, beq_self_eq_true, Nat.add_zero, Int.reduceLE, Int.reduceLT, Int.reduceToNat, Int.reduceNeg, r1, rc1, k0h, kch, k33, d1, d5, d9, c0h, Int.toNat_natCast]
    repeat' (first
        | with_reducible exact Bel.refl _ _
        | with_reducible exact Bel.push (by omega) _
        | (with_reducible refine (get4d_ok T _ bb oo d _ _ _ b 1 (by first | exact sbx | exact sbx.bel (Bel.push (Nat.le_refl _) _)) hm (by omega) rfl (by omega)).pure ?_; simp (config := {maxSteps := 2000000, implicitDefEqProofs := false}) only [go_sem, ↓reduceIte, Nat.reduceEqDiff, Nat.reduceAdd, Nat.reduceMul, Nat.reduceLeDiff, Nat.reduceLT, Nat.reduceSub, IntWalk.iteOmega, IntWalk.toNatUp, reduceCtorEq, false_and, and_false, false_or, or_false, true_or, or_true, not_true_eq_false, not_false_eq_true, Bool.not_true, Bool.not_false, Bool.and_true, Bool.true_and, Bool.and_false, Bool.false_and, Bool.not_eq_true, beq_self_eq_true, Nat.add_zero, Int.reduceLE, Int.reduceLT, Int.reduceToNat, Int.reduceNeg, r1, rc1, k0h, kch, c0h, Int.toNat_natCast])
        | (with_reducible refine (get4d_ok T _ bb oo d _ _ _ b 5 (by first | exact sbx | exact sbx.bel (Bel.push (Nat.le_refl _) _)) hm (by omega) rfl (by omega)).pure ?_; simp (config := {maxSteps := 2000000, implicitDefEqProofs := false}) only [go_sem, ↓reduceIte, Nat.reduceEqDiff, Nat.reduceAdd, Nat.reduceMul, Nat.reduceLeDiff, Nat.reduceLT, Nat.reduceSub, IntWalk.iteOmega, IntWalk.toNatUp, reduceCtorEq, false_and, and_false, false_or, or_false, true_or, or_true, not_true_eq_false, not_false_eq_true, Bool.not_true, Bool.not_false, Bool.and_true, Bool.true_and, Bool.and_false, Bool.false_and, Bool.not_eq_true, beq_self_eq_true, Nat.add_zero, Int.reduceLE, Int.reduceLT, Int.reduceToNat, Int.reduceNeg, r1, rc1, k0h, kch, c0h, Int.toNat_natCast])
        | (with_reducible refine (get4d_ok T _ bb oo d _ _ _ b 9 (by first | exact sbx | exact sbx.bel (Bel.push (Nat.le_refl _) _)) hm (by omega) rfl (by omega)).pure ?_; simp (config := {maxSteps := 2000000, implicitDefEqProofs := false}) only [go_sem, ↓reduceIte, Nat.reduceEqDiff, Nat.reduceAdd, Nat.reduceMul, Nat.reduceLeDiff, Nat.reduceLT, Nat.reduceSub, IntWalk.iteOmega, IntWalk.toNatUp, reduceCtorEq, false_and, and_false, false_or, or_false, true_or, or_true, not_true_eq_false, not_false_eq_true, Bool.not_true, Bool.not_false, Bool.and_true, Bool.true_and, Bool.and_false, Bool.false_and, Bool.not_eq_true, beq_self_eq_true, Nat.add_zero, Int.reduceLE, Int.reduceLT, Int.reduceToNat, Int.reduceNeg, r1, rc1, k0h, kch, c0h, Int.toNat_natCast])
        | with_reducible refine And.intro ?_ ?_)
    all_goals first
      | (refine (call h1 s1').use ?_
         rintro _ g1 ⟨⟨w1, rfl, o1⟩, b1⟩
         obtain ⟨p1, c1, rfl, _⟩ := o1.open
         generalize (if acErr P l X = 0 then X.b else ⟨0, 0⟩) = Y at *
         generalize (if acErr P l X = 0 then insV l X else []) = L at *
         generalize acErr P l X = E at *
         have s1 := b1.size
         unfold accC
         simp (config := {maxSteps := 2000000, implicitDefEqProofs := false}) only [go_sem, ↓reduceIte, Nat.reduceEqDiff, Nat.reduceAdd, Nat.reduceMul, Nat.reduceLeDiff, Nat.reduceLT, Nat.reduceSub, IntWalk.iteOmega, IntWalk.toNatUp, reduceCtorEq, false_and, and_false, false_or, or_false, true_or, or_true, not_true_eq_false, not_false_eq_true, Bool.not_true, Bool.not_false, Bool.and_true, Bool.true_and, Bool.and_false, Bool.false_and, Bool.not_eq_true, beq_self_eq_true, Nat.add_zero, Int.reduceLE, Int.reduceLT, Int.reduceToNat, Int.reduceNeg, b1]
         exact ⟨_, _, _, s1, rfl, get_push_last, o1.push _⟩)
      | (refine (call (h1.push (.cells [.int .i64 0, .int .i64 0, .slice none 0 0].toArray 85)) (s1'.bel (Bel.push (Nat.le_refl _) _))).use ?_
         rintro _ g1 ⟨⟨w1, rfl, o1⟩, b1⟩
         obtain ⟨p1, c1, rfl, _⟩ := o1.open
         generalize (if acErr P l X = 0 then X.b else ⟨0, 0⟩) = Y at *
         generalize (if acErr P l X = 0 then insV l X else []) = L at *
         generalize acErr P l X = E at *
         have B1 : Bel h1.size h1 g1 := (Bel.push (Nat.le_refl _) _).trans (b1.mono (by simp))
         have xA := b1.get (by simp) get_push_last
         have yA := fin g1 h1.size [.int .i64 Y.r, .int .i64 Y.n, .slice p1 L.length c1] rfl rfl xA
         have hz := lt_of_get xA
         unfold accC
         simp (config := {maxSteps := 2000000, implicitDefEqProofs := false}) only [go_sem, ↓reduceIte, Nat.reduceEqDiff, Nat.reduceAdd, Nat.reduceMul, Nat.reduceLeDiff, Nat.reduceLT, Nat.reduceSub, IntWalk.iteOmega, IntWalk.toNatUp, reduceCtorEq, false_and, and_false, false_or, or_false, true_or, or_true, not_true_eq_false, not_false_eq_true, Bool.not_true, Bool.not_false, Bool.and_true, Bool.true_and, Bool.and_false, Bool.false_and, Bool.not_eq_true, beq_self_eq_true, Nat.add_zero, Int.reduceLE, Int.reduceLT, Int.reduceToNat, Int.reduceNeg, B1, yA, hz]
         exact ⟨_, _, _, Nat.le_refl _, rfl, get_set xA, (o1.setLow (b := h1.size) (by simp) _).mono (by simp)⟩)
  · rintro F' g' ⟨hB, f4, f8, A, p1, c1, hA, f6, xA, oA⟩
    have z1 := hB.get (by omega) z1h
    have k1' := lt_of_get z1
    have rA : rd g' ⟨A, 0, none⟩ 3 = _ := rd_last xA rfl
    generalize hY : (if acErr P l X = 0 then X.b else ⟨0, 0⟩) = Y at *
    generalize hL : (if acErr P l X = 0 then insV l X else []) = L at *
    generalize acErr P l X = E at *
    unfold accC at rA
    have wz := fin g' (h.size + 1) [.int .i64 Y.r, .int .i64 Y.n, .slice p1 L.length c1] rfl rfl z1
    have bb' : Bel h.size h (g'.setIfInBounds (h.size + 1) (.cells [.int .i64 Y.r, .int .i64 Y.n, .slice p1 L.length c1].toArray 85)) := (B1.trans (hB.mono (by omega))).addSet (by omega) _
    by_cases q : E = 0
    · rw [if_pos q] at e hY hL
      simp (config := {maxSteps := 2000000, implicitDefEqProofs := false}) only [go_sem, ↓reduceIte, Nat.reduceEqDiff, Nat.reduceAdd, Nat.reduceMul, Nat.reduceLeDiff, Nat.reduceLT, Nat.reduceSub, IntWalk.iteOmega, IntWalk.toNatUp, reduceCtorEq, false_and, and_false, false_or, or_false, true_or, or_true, not_true_eq_false, not_false_eq_true, Bool.not_true, Bool.not_false, Bool.and_true, Bool.true_and, Bool.and_false, Bool.false_and, Bool.not_eq_true, beq_self_eq_true, Nat.add_zero, Int.reduceLE, Int.reduceLT, Int.reduceToNat, Int.reduceNeg, f4, f6, f8, rA, wz, k1', q, e]
      refine ⟨⟨Y, p1, L.length, c1, rfl, fun x hx => ?_⟩, bb'⟩
      cases hx
      exact ⟨hY.symm, by rw [hL]; exact (oA.setLow (by omega) _).mono (by omega)⟩
    · rw [if_neg q] at e
      simp (config := {maxSteps := 2000000, implicitDefEqProofs := false}) only [go_sem, ↓reduceIte, Nat.reduceEqDiff, Nat.reduceAdd, Nat.reduceMul, Nat.reduceLeDiff, Nat.reduceLT, Nat.reduceSub, IntWalk.iteOmega, IntWalk.toNatUp, reduceCtorEq, false_and, and_false, false_or, or_false, true_or, or_true, not_true_eq_false, not_false_eq_true, Bool.not_true, Bool.not_false, Bool.and_true, Bool.true_and, Bool.and_false, Bool.false_and, Bool.not_eq_true, beq_self_eq_true, Nat.add_zero, Int.reduceLE, Int.reduceLT, Int.reduceToNat, Int.reduceNeg, f4, f6, f8, rA, wz, k1', q, e]
      exact ⟨⟨Y, p1, L.length, c1, rfl, by simp⟩, bb'⟩
set_option maxHeartbeats 1000000 in
theorem bodyDone_ok (T : World) (h : Hp) (P : Bal) (pv : Option Addr) (cv : Nat) (l : List Vt) (q : Option Addr) (m d : Nat) (b : List Nat) (s : Ts voteC 8 h (.slice pv l.length cv) l) (sb : Bs h (.slice q m d) b) (hm : b.length = m) (hl : l.length ≤ 1000000) (hb : m ≤ 1000) (hd : m ≤ d) :
    CallsH Tryd.prog T 107 #[.agg (accC P (.slice pv l.length cv)).toArray, .slice q m d] h fun v' h' => BodyRes h.size h' v' ⟨P, l⟩ b ∧ Bel h.size h h' := by
  refine CallsH.of_code2 (args := [_, _]) Tryd.func107 rfl rfl rfl rfl ?_
  unfold accC
  simp (config := {maxSteps := 2000000, implicitDefEqProofs := false}) only [go_sem, ↓reduceIte, Nat.reduceEqDiff, Nat.reduceAdd, Nat.reduceMul, Nat.reduceLeDiff, Nat.reduceLT, Nat.reduceSub, IntWalk.iteOmega, IntWalk.toNatUp, reduceCtorEq, false_and, and_false, false_or, or_false, true_or, or_true, not_true_eq_false, not_false_eq_true, Bool.not_true, Bool.not_false, Bool.and_true, Bool.true_and, Bool.and_false, Bool.false_and, Bool.not_eq_true, beq_self_eq_true, Nat.add_zero, Int.reduceLE, Int.reduceLT, Int.reduceToNat, Int.reduceNeg]
  obtain ⟨h0, hh0⟩ : ∃ h0 : Hp, h0 = (h.push (.cells (accC P (.slice pv l.length cv)).toArray 85)).push (.cells [.int .i64 0, .int .i64 0, .slice none 0 0].toArray 85) := ⟨_, rfl⟩
  have b0 : Bel h.size h h0 := by rw [hh0]; exact ((Bel.refl _ _).add _).add _
  have s0 : h0.size = h.size + 2 := by rw [hh0]; simp
  have x0 : h0[h.size]? = some (.cells (accC P (.slice pv l.length cv)).toArray 85) := by
    rw [hh0, Array.getElem?_push, if_neg (by simp), get_push_last]
  have z0 : h0[h.size + 1]? = some (.cells [.int .i64 0, .int .i64 0, .slice none 0 0].toArray 85) := by
    rw [hh0, Array.getElem?_push, if_pos (by simp)]
  have e0 : (h.push (.cells #[Value.int .i64 P.r, .int .i64 P.n, .slice pv l.length cv] 85)).push (.cells #[Value.int .i64 0, .int .i64 0, .slice none 0 0] 85) = h0 := hh0.symm
  rw [e0]
  clear e0 hh0
  have fin : ∀ (G : Hp) (k : Nat) (w : List Value), w.length = 3 → w.all oneC = true → G[k]? = some (.cells [.int .i64 0, .int .i64 0, .slice none 0 0].toArray 85) → wr G ⟨k, 0, none⟩ w = some (G.setIfInBounds k (.cells w.toArray 85)) := by
    intro G k w h3 h1 hx
    rw [wr_get (b := k) hx 0 w, lput_full (by rw [h3]; rfl), if_pos ⟨by rw [h3]; simp, h1⟩]
  have sb0 := sb.bel b0
  have s0' := s.bel b0
  have r0 : rd h0 ⟨h.size, 0, none⟩ 3 = some [.int .i64 P.r, .int .i64 P.n, .slice pv l.length cv] := rd_last x0 rfl
  have k0 : h.size < h0.size := by omega
  have k1 : h.size + 1 < h0.size := by omega
  unfold BodyRes
  by_cases n9 : m = 9
  · subst n9
    have k9 : ((9 : Nat) : Int) = 9 := rfl
    obtain ⟨q', d', hv, hh⟩ := sb0.opend
    simp only [Value.slice.injEq] at hv
    obtain ⟨rfl, _, rfl⟩ := hv
    obtain ⟨bb, oo, rfl, hbb, hcs⟩ := hh (by intro e; subst e; simp at hm)
    have c0 := hcs 0 (by omega)
    rw [Nat.add_zero] at c0
    by_cases q1 : b.getD 0 0 = 1
    case neg =>
      have q1' : ¬ ((b.getD 0 0 : Nat) : Int) = 1 := by omega
      have e : bodyS ⟨P, l⟩ b = none := by
        unfold bodyS
        rw [if_neg (fun hn => q1 hn.2), if_neg (fun hn => by omega)]
      have wz := fin h0 (h.size + 1) [.int .i64 0, .int .i64 0, .slice none 0 0] rfl rfl z0
      simp (config := {maxSteps := 2000000, implicitDefEqProofs := false}) only [go_sem, ↓reduceIte, Nat.reduceEqDiff, Nat.reduceAdd, Nat.reduceMul, Nat.reduceLeDiff, Nat.reduceLT, Nat.reduceSub, IntWalk.iteOmega, IntWalk.toNatUp, reduceCtorEq, false_and, and_false, false_or, or_false, true_or, or_true, not_true_eq_false, not_false_eq_true, Bool.not_true, Bool.not_false, Bool.and_true, Bool.true_and, Bool.and_false, Bool.false_and, Bool.not_eq_true, beq_self_eq_true, Nat.add_zero, Int.reduceLE, Int.reduceLT, Int.reduceToNat, Int.reduceNeg, k9, c0, q1', e, wz, k1]
      exact ⟨⟨⟨0, 0⟩, none, 0, 0, rfl, by simp⟩, b0.addSet (by omega) _⟩
    rw [q1] at c0
    have e1 : ((1 : Nat) : Int) = 1 := rfl
    rw [e1] at c0
    obtain ⟨X, hX⟩ : ∃ X : Bal, X = ⟨be4 b 1, be4 b 5⟩ := ⟨_, rfl⟩
    have e : bodyS ⟨P, l⟩ b = if prErr P l X = 0 then some ⟨X, l⟩ else none := by
      unfold bodyS
      rw [if_pos ⟨hm, q1⟩, hX]
    have call : ∀ G, Ts voteC 8 G (.slice pv l.length cv) l → CallsH Tryd.prog T 144 #[.agg #[.int .i64 P.r, .int .i64 P.n, .slice pv l.length cv], .agg #[.int .i64 (be4 b 1 : Nat), .int .i64 (be4 b 5 : Nat)]] G fun v' h' => PrRes G.size h' v' P l X ∧ Bel G.size G h' := fun G sG => by
      rw [hX]; exact promisedTo_ok T G P _ l _ sG (by omega)
    clear hX
    have d1 : ¬ d = 1 := by omega
    have d5 : ¬ d = 5 := by omega
    have sbx := sb0
    simp (config := {maxSteps := 2000000, implicitDefEqProofs := false}) only [go_sem, ↓reduceIte, Nat.reduceEqDiff, Nat.reduceAdd, Nat.reduceMul, Nat.reduceLeDiff, Nat.reduceLT, Nat.reduceSub, IntWalk.iteOmega, IntWalk.toNatUp, reduceCtorEq, false_and, and_false, false_or, or_false, true_or, or_true, not_true_eq_false, not_false_eq_true, Bool.not_true, Bool.not_false, Bool.and_true, Bool.true_and, Bool.and_false, Bool.false_and, Bool.not_eq_true, beq_self_eq_true, Nat.add_zero, Int.reduceLE, Int.reduceLT, Int.reduceToNat, Int.reduceNeg, k9, c0]
    refine VS.mono (N := fun F' g' => Bel h0.size h0 g' ∧ F' 4 = .pointer (some ⟨h.size + 1, 0, none⟩) ∧ F' 8 = .int .i64 (prErr P l X) ∧ ∃ A p1 c1, h0.size ≤ A ∧ F' 6 = .pointer (some ⟨A, 0, none⟩) ∧ g'[A]? = some (.cells (accC (if prErr P l X = 0 then X else ⟨0, 0⟩) (.slice p1 (if prErr P l X = 0 then l else []).length c1)).toArray 85) ∧ Ots h0.size 80 voteC 8 g' (.slice p1 (if prErr P l X = 0 then l else []).length c1) (if prErr P l X = 0 then l else [])) ?_ ?_ (fun _ _ _ h => h) (fun _ _ h => h)
    · refine VS.w (h0.size) [] (.q 0 (.q 1 (.q 3 (.or 2 (.or 4 (.q 5 (.or 6 (.q 7 (.q 8 (.q 9 (.q 10 (.s 11 (.s 12 (.q 13 (.q 14 .nil)))))))) (.s 11 (.s 6 (.q 7 (.q 8 (.q 9 (.q 10 (.s 12 (.q 13 (.q 14 .nil))))))))))) (.s 11 (.s 4 (.q 5 (.s 6 (.q 7 (.q 8 (.q 9 (.q 10 (.s 12 (.q 13 (.q 14 .nil)))))))))))) (.s 11 (.s 2 (.s 4 (.q 5 (.s 6 (.q 7 (.q 8 (.q 9 (.q 10 (.s 12 (.q 13 (.q 14 .nil)))))))))))))))) mixed (by kernel_rfl) ?_
      simp (config := {maxSteps := 2000000, implicitDefEqProofs := false}) only [go_sem, ↓reduceIte, Nat.reduceEqDiff, Nat.reduceAdd, Nat.reduceMul, Nat.reduceLeDiff, Nat.reduceLT, Nat.reduceSub, IntWalk.iteOmega, IntWalk.toNatUp, reduceCtorEq, false_and, and_false, false_or, or_false, true_or, or_true, not_true_eq_false, not_false_eq_true, Bool.not_true, Bool.not_false, Bool.and_true, Bool.true_and, Bool.and_false, Bool.false_and, Bool.not_eq_true, beq_self_eq_true, Nat.add_zero, Int.reduceLE, Int.reduceLT, Int.reduceToNat, Int.reduceNeg, r0, k0, k9, d1, d5, c0, Int.toNat_natCast]
      repeat' (first
          | with_reducible exact Bel.refl _ _
          | with_reducible exact Bel.push (by omega) _
          | (with_reducible refine (fourHighI_ok T _ _ b 1 1 rfl (by first | exact sbx | exact sbx.bel (Bel.push (Nat.le_refl _) _)) (by omega) (by omega)).pure ?_; simp (config := {maxSteps := 2000000, implicitDefEqProofs := false}) only [go_sem, ↓reduceIte, Nat.reduceEqDiff, Nat.reduceAdd, Nat.reduceMul, Nat.reduceLeDiff, Nat.reduceLT, Nat.reduceSub, IntWalk.iteOmega, IntWalk.toNatUp, reduceCtorEq, false_and, and_false, false_or, or_false, true_or, or_true, not_true_eq_false, not_false_eq_true, Bool.not_true, Bool.not_false, Bool.and_true, Bool.true_and, Bool.and_false, Bool.false_and, Bool.not_eq_true, beq_self_eq_true, Nat.add_zero, Int.reduceLE, Int.reduceLT, Int.reduceToNat, Int.reduceNeg, r0, k0, c0, Int.toNat_natCast])
          | (with_reducible refine (fourHighI_ok T _ _ b 5 5 rfl (by first | exact sbx | exact sbx.bel (Bel.push (Nat.le_refl _) _)) (by omega) (by omega)).pure ?_; simp (config := {maxSteps := 2000000, implicitDefEqProofs := false}) only [go_sem, ↓reduceIte, Nat.reduceEqDiff, Nat.reduceAdd, Nat.reduceMul, Nat.reduceLeDiff, Nat.reduceLT, Nat.reduceSub, IntWalk.iteOmega, IntWalk.toNatUp, reduceCtorEq, false_and, and_false, false_or, or_false, true_or, or_true, not_true_eq_false, not_false_eq_true, Bool.not_true, Bool.not_false, Bool.and_true, Bool.true_and, Bool.and_false, Bool.false_and, Bool.not_eq_true, beq_self_eq_true, Nat.add_zero, Int.reduceLE, Int.reduceLT, Int.reduceToNat, Int.reduceNeg, r0, k0, c0, Int.toNat_natCast])
          | with_reducible refine And.intro ?_ ?_)
      all_goals first
        | (refine (call h0 s0').use ?_
           rintro _ g1 ⟨⟨w1, w2, rfl, o1, o2⟩, b1⟩
           obtain ⟨p1, c1, rfl, _⟩ := o1.open
           obtain ⟨p2, c2, rfl, _⟩ := o2.open
           generalize (if prErr P l X = 0 then X else ⟨0, 0⟩) = Y at *
           generalize (if prErr P l X = 0 then l else []) = L at *
           generalize prErr P l X = E at *
           have s1 := b1.size
           unfold accC
           simp (config := {maxSteps := 2000000, implicitDefEqProofs := false}) only [go_sem, ↓reduceIte, Nat.reduceEqDiff, Nat.reduceAdd, Nat.reduceMul, Nat.reduceLeDiff, Nat.reduceLT, Nat.reduceSub, IntWalk.iteOmega, IntWalk.toNatUp, reduceCtorEq, false_and, and_false, false_or, or_false, true_or, or_true, not_true_eq_false, not_false_eq_true, Bool.not_true, Bool.not_false, Bool.and_true, Bool.true_and, Bool.and_false, Bool.false_and, Bool.not_eq_true, beq_self_eq_true, Nat.add_zero, Int.reduceLE, Int.reduceLT, Int.reduceToNat, Int.reduceNeg, b1]
           exact ⟨_, _, _, s1, rfl, get_push_last, o1.push _⟩)
        | (refine (call (h0.push (.cells [.int .i64 0, .int .i64 0, .slice none 0 0].toArray 85)) (s0'.bel (Bel.push (Nat.le_refl _) _))).use ?_
           rintro _ g1 ⟨⟨w1, w2, rfl, o1, o2⟩, b1⟩
           obtain ⟨p1, c1, rfl, _⟩ := o1.open
           obtain ⟨p2, c2, rfl, _⟩ := o2.open
           generalize (if prErr P l X = 0 then X else ⟨0, 0⟩) = Y at *
           generalize (if prErr P l X = 0 then l else []) = L at *
           generalize prErr P l X = E at *
           have B1 : Bel h0.size h0 g1 := (Bel.push (Nat.le_refl _) _).trans (b1.mono (by simp))
           have xA := b1.get (by simp) get_push_last
           have yA := fin g1 h0.size [.int .i64 Y.r, .int .i64 Y.n, .slice p1 L.length c1] rfl rfl xA
           have hz := lt_of_get xA
           unfold accC
           simp (config := {maxSteps := 2000000, implicitDefEqProofs := false}) only [go_sem, ↓reduceIte, Nat.reduceEqDiff, Nat.reduceAdd, Nat.reduceMul, Nat.reduceLeDiff, Nat.reduceLT, Nat.reduceSub, IntWalk.iteOmega, IntWalk.toNatUp, reduceCtorEq, false_and, and_false, false_or, or_false, true_or, or_true, not_true_eq_false, not_false_eq_true, Bool.not_true, Bool.not_false, Bool.and_true, Bool.true_and, Bool.and_false, Bool.false_and, Bool.not_eq_true, beq_self_eq_true, Nat.add_zero, Int.reduceLE, Int.reduceLT, Int.reduceToNat, Int.reduceNeg, B1, yA, hz]
           exact ⟨_, _, _, Nat.le_refl _, rfl, get_set xA, (o1.setLow (b := h0.size) (by simp) _).mono (by simp)⟩)
    · rintro F' g' ⟨hB, f4, f8, A, p1, c1, hA, f6, xA, oA⟩
      have z1 := hB.get (by omega) z0
      have k1' := lt_of_get z1
      have rA : rd g' ⟨A, 0, none⟩ 3 = _ := rd_last xA rfl
      generalize hY : (if prErr P l X = 0 then X else ⟨0, 0⟩) = Y at *
      generalize hL : (if prErr P l X = 0 then l else []) = L at *
      generalize prErr P l X = E at *
      unfold accC at rA
      have wz := fin g' (h.size + 1) [.int .i64 Y.r, .int .i64 Y.n, .slice p1 L.length c1] rfl rfl z1
      have bb' : Bel h.size h (g'.setIfInBounds (h.size + 1) (.cells [.int .i64 Y.r, .int .i64 Y.n, .slice p1 L.length c1].toArray 85)) := (b0.trans (hB.mono (by omega))).addSet (by omega) _
      by_cases q : E = 0
      · rw [if_pos q] at e hY hL
        simp (config := {maxSteps := 2000000, implicitDefEqProofs := false}) only [go_sem, ↓reduceIte, Nat.reduceEqDiff, Nat.reduceAdd, Nat.reduceMul, Nat.reduceLeDiff, Nat.reduceLT, Nat.reduceSub, IntWalk.iteOmega, IntWalk.toNatUp, reduceCtorEq, false_and, and_false, false_or, or_false, true_or, or_true, not_true_eq_false, not_false_eq_true, Bool.not_true, Bool.not_false, Bool.and_true, Bool.true_and, Bool.and_false, Bool.false_and, Bool.not_eq_true, beq_self_eq_true, Nat.add_zero, Int.reduceLE, Int.reduceLT, Int.reduceToNat, Int.reduceNeg, f4, f6, f8, rA, wz, k1', q, e]
        refine ⟨⟨Y, p1, L.length, c1, rfl, fun x hx => ?_⟩, bb'⟩
        cases hx
        exact ⟨hY.symm, by rw [hL]; exact (oA.setLow (by omega) _).mono (by omega)⟩
      · rw [if_neg q] at e
        simp (config := {maxSteps := 2000000, implicitDefEqProofs := false}) only [go_sem, ↓reduceIte, Nat.reduceEqDiff, Nat.reduceAdd, Nat.reduceMul, Nat.reduceLeDiff, Nat.reduceLT, Nat.reduceSub, IntWalk.iteOmega, IntWalk.toNatUp, reduceCtorEq, false_and, and_false, false_or, or_false, true_or, or_true, not_true_eq_false, not_false_eq_true, Bool.not_true, Bool.not_false, Bool.and_true, Bool.true_and, Bool.and_false, Bool.false_and, Bool.not_eq_true, beq_self_eq_true, Nat.add_zero, Int.reduceLE, Int.reduceLT, Int.reduceToNat, Int.reduceNeg, f4, f6, f8, rA, wz, k1', q, e]
        exact ⟨⟨Y, p1, L.length, c1, rfl, by simp⟩, bb'⟩
  have n9' : ¬ (m : Int) = 9 := by omega
  by_cases n33 : m = 33
  case neg =>
    have n33' : ¬ (m : Int) = 33 := by omega
    have e : bodyS ⟨P, l⟩ b = none := by
      unfold bodyS
      rw [if_neg (fun hn => by omega), if_neg (fun hn => by omega)]
    have wz := fin h0 (h.size + 1) [.int .i64 0, .int .i64 0, .slice none 0 0] rfl rfl z0
    simp (config := {maxSteps := 2000000, implicitDefEqProofs := false}) only [go_sem, ↓reduceIte, Nat.reduceEqDiff, Nat.reduceAdd, Nat.reduceMul, Nat.reduceLeDiff, Nat.reduceLT, Nat.reduceSub, IntWalk.iteOmega, IntWalk.toNatUp, reduceCtorEq, false_and, and_false, false_or, or_false, true_or, or_true, not_true_eq_false, not_false_eq_true, Bool.not_true, Bool.not_false, Bool.and_true, Bool.true_and, Bool.and_false, Bool.false_and, Bool.not_eq_true, beq_self_eq_true, Nat.add_zero, Int.reduceLE, Int.reduceLT, Int.reduceToNat, Int.reduceNeg, n9', n33', e, wz, k1]
    exact ⟨⟨⟨0, 0⟩, none, 0, 0, rfl, by simp⟩, b0.addSet (by omega) _⟩
  subst n33
  have k33 : ((33 : Nat) : Int) = 33 := rfl
  clear n9'
  obtain ⟨q', d', hv, hh⟩ := sb0.opend
  simp only [Value.slice.injEq] at hv
  obtain ⟨rfl, _, rfl⟩ := hv
  obtain ⟨bb, oo, rfl, hbb, hcs⟩ := hh (by intro e; subst e; simp at hm)
  have c0 := hcs 0 (by omega)
  rw [Nat.add_zero] at c0
  by_cases q2 : b.getD 0 0 = 2
  case neg =>
    have q2' : ¬ ((b.getD 0 0 : Nat) : Int) = 2 := by omega
    have e : bodyS ⟨P, l⟩ b = none := by
      unfold bodyS
      rw [if_neg (fun hn => by omega), if_neg (fun hn => q2 hn.2)]
    have wz := fin h0 (h.size + 1) [.int .i64 0, .int .i64 0, .slice none 0 0] rfl rfl z0
    simp (config := {maxSteps := 2000000, implicitDefEqProofs := false}) only [go_sem, ↓reduceIte, Nat.reduceEqDiff, Nat.reduceAdd, Nat.reduceMul, Nat.reduceLeDiff, Nat.reduceLT, Nat.reduceSub, IntWalk.iteOmega, IntWalk.toNatUp, reduceCtorEq, false_and, and_false, false_or, or_false, true_or, or_true, not_true_eq_false, not_false_eq_true, Bool.not_true, Bool.not_false, Bool.and_true, Bool.true_and, Bool.and_false, Bool.false_and, Bool.not_eq_true, beq_self_eq_true, Nat.add_zero, Int.reduceLE, Int.reduceLT, Int.reduceToNat, Int.reduceNeg, k33, c0, q2', e, wz, k1]
    exact ⟨⟨⟨0, 0⟩, none, 0, 0, rfl, by simp⟩, b0.addSet (by omega) _⟩
  rw [q2] at c0
  have e2 : ((2 : Nat) : Int) = 2 := rfl
  rw [e2] at c0
  have d13 : ¬ d = 13 := by omega
  have d33 : (33 : Int) ≤ (d : Int) := by omega
  have s13 := fun c' => bs_cutF sb0 (k := 13) (by omega) hm c'
  simp (config := {maxSteps := 2000000, implicitDefEqProofs := false}) only [go_sem, ↓reduceIte, Nat.reduceEqDiff, Nat.reduceAdd, Nat.reduceMul, Nat.reduceLeDiff, Nat.reduceLT, Nat.reduceSub, IntWalk.iteOmega, IntWalk.toNatUp, reduceCtorEq, false_and, and_false, false_or, or_false, true_or, or_true, not_true_eq_false, not_false_eq_true, Bool.not_true, Bool.not_false, Bool.and_true, Bool.true_and, Bool.and_false, Bool.false_and, Bool.not_eq_true, beq_self_eq_true, Nat.add_zero, Int.reduceLE, Int.reduceLT, Int.reduceToNat, Int.reduceNeg, k33, c0, d13, d33, Int.toNat_natCast]
  refine (commandOf_ok T h0 _ (b.drop 13) (s13 _) (by rw [List.length_drop]; omega)).use ?_
  rintro _ g ⟨rfl, bg⟩
  have sg := bg.size
  by_cases q3 : decErr (b.drop 13) = 0
  case neg =>
    have e : bodyS ⟨P, l⟩ b = none := by
      unfold bodyS
      rw [if_neg (fun hn => by omega), if_pos ⟨hm, q2⟩, if_pos q3]
    rw [decC_none _ q3]
    have zg := bg.get k1 z0
    have xg := bg.get k0 x0
    have rg : rd g ⟨h.size, 0, none⟩ 3 = some [.int .i64 P.r, .int .i64 P.n, .slice pv l.length cv] := rd_last xg rfl
    have wz := fin g (h.size + 1) [.int .i64 0, .int .i64 0, .slice none 0 0] rfl rfl zg
    have hne0 : ¬ h.size = g.size := by omega
    have hne1 : ¬ h.size + 1 = g.size := by omega
    have hlt1 : h.size + 1 < g.size := by omega
    simp (config := {maxSteps := 2000000, implicitDefEqProofs := false}) only [go_sem, ↓reduceIte, Nat.reduceEqDiff, Nat.reduceAdd, Nat.reduceMul, Nat.reduceLeDiff, Nat.reduceLT, Nat.reduceSub, IntWalk.iteOmega, IntWalk.toNatUp, reduceCtorEq, false_and, and_false, false_or, or_false, true_or, or_true, not_true_eq_false, not_false_eq_true, Bool.not_true, Bool.not_false, Bool.and_true, Bool.true_and, Bool.and_false, Bool.false_and, Bool.not_eq_true, beq_self_eq_true, Nat.add_zero, Int.reduceLE, Int.reduceLT, Int.reduceToNat, Int.reduceNeg, q3, e, rg, wz, hne0, hne1, hlt1]
    exact ⟨⟨⟨0, 0⟩, none, 0, 0, rfl, by simp⟩, ((b0.trans (bg.mono (by omega))).addSet (by omega) _).addP (by simp; omega) _⟩
  rw [decC_cells _ q3, q3]
  obtain ⟨X, hX⟩ : ∃ X : Vt, X = cmdAt (b.drop 13) ⟨be4 b 1, ⟨be4 b 5, be4 b 9⟩, 0, 0, 0, 0, 0⟩ := ⟨_, rfl⟩
  have e : bodyS ⟨P, l⟩ b = if acErr P l X = 0 then some ⟨X.b, insV l X⟩ else none := by
    unfold bodyS
    rw [if_neg (fun hn => by omega), if_pos ⟨hm, q2⟩, if_neg (fun hn => hn q3), ← hX]
    rw [show (⟨((be4 b 5 : Nat) : Int), ((be4 b 9 : Nat) : Int)⟩ : Bal) = X.b by rw [hX]; rfl]
  have call : ∀ G, Ts voteC 8 G (.slice pv l.length cv) l → CallsH Tryd.prog T 145 #[.agg #[.int .i64 P.r, .int .i64 P.n, .slice pv l.length cv], .agg #[.int .i64 (be4 b 1 : Nat), .int .i64 (be4 b 5 : Nat), .int .i64 (be4 b 9 : Nat), .int .i64 (be4 (b.drop 13) 0 : Nat), .int .i64 (be4 (b.drop 13) 4 : Nat), .int .i64 (be4 (b.drop 13) 8 : Nat), .int .i64 (be4 (b.drop 13) 12 : Nat), .int .i64 (be4 (b.drop 13) 16 : Nat)]] G fun v' h' => AcRes G.size h' v' P l X ∧ Bel G.size G h' := fun G sG => by
    rw [hX]; exact acceptedBy_ok T G P _ l _ sG (by omega)
  clear hX
  generalize be4 (b.drop 13) 0 = y0 at *
  generalize be4 (b.drop 13) 4 = y4 at *
  generalize be4 (b.drop 13) 8 = y8 at *
  generalize be4 (b.drop 13) 12 = y12 at *
  generalize be4 (b.drop 13) 16 = y16 at *
  obtain ⟨h1, hh1⟩ : ∃ h1 : Hp, h1 = g.push (.cells [.int .i64 (y0 : Nat), .int .i64 (y4 : Nat), .int .i64 (y8 : Nat), .int .i64 (y12 : Nat), .int .i64 (y16 : Nat)].toArray 25) := ⟨_, rfl⟩
  have e1 : g.push (.cells #[Value.int .i64 (y0 : Nat), .int .i64 (y4 : Nat), .int .i64 (y8 : Nat), .int .i64 (y12 : Nat), .int .i64 (y16 : Nat)] 25) = h1 := hh1.symm
  simp (config := {maxSteps := 2000000, implicitDefEqProofs := false}) only [go_sem, ↓reduceIte, Nat.reduceEqDiff, Nat.reduceAdd, Nat.reduceMul, Nat.reduceLeDiff, Nat.reduceLT, Nat.reduceSub, IntWalk.iteOmega, IntWalk.toNatUp, reduceCtorEq, false_and, and_false, false_or, or_false, true_or, or_true, not_true_eq_false, not_false_eq_true, Bool.not_true, Bool.not_false, Bool.and_true, Bool.true_and, Bool.and_false, Bool.false_and, Bool.not_eq_true, beq_self_eq_true, Nat.add_zero, Int.reduceLE, Int.reduceLT, Int.reduceToNat, Int.reduceNeg]
  rw [e1]
  have b1 : Bel h0.size h0 h1 := by rw [hh1]; exact bg.addP sg _
  have s1h : h1.size = g.size + 1 := by rw [hh1]; simp
  have c1h : h1[g.size]? = some (.cells [.int .i64 (y0 : Nat), .int .i64 (y4 : Nat), .int .i64 (y8 : Nat), .int .i64 (y12 : Nat), .int .i64 (y16 : Nat)].toArray 25) := by rw [hh1]; exact get_push_last
  clear e1 hh1
  have x1 := b1.get k0 x0
  have z1h := b1.get k1 z0
  have r1 : rd h1 ⟨h.size, 0, none⟩ 3 = some [.int .i64 P.r, .int .i64 P.n, .slice pv l.length cv] := rd_last x1 rfl
  have rc1 : rd h1 ⟨g.size, 0, none⟩ 5 = some [.int .i64 (y0 : Nat), .int .i64 (y4 : Nat), .int .i64 (y8 : Nat), .int .i64 (y12 : Nat), .int .i64 (y16 : Nat)] := rd_last c1h rfl
  have c0h : hc h1 ⟨bb, oo, none⟩ = some (.int .u8 2) := by rw [b1.hc (by exact hbb)]; exact c0
  have k0h : h.size < h1.size := by omega
  have kch : g.size < h1.size := by omega
  have sbx := sb0.bel b1
  have s1' := s0'.bel b1
  have d1 : ¬ d = 1 := by omega
  have d5 : ¬ d = 5 := by omega
  have d9 : ¬ d = 9 := by omega
  have B1 : Bel h.size h h1 := b0.trans (b1.mono (by omega))
  refine VS.mono (N := fun F' g' => Bel h1.size h1 g' ∧ F' 4 = .pointer (some ⟨h.size + 1, 0, none⟩) ∧ F' 12 = .int .i64 (acErr P l X) ∧ ∃ A p1 c1, h1.size ≤ A ∧ F' 11 = .pointer (some ⟨A, 0, none⟩) ∧ g'[A]? = some (.cells (accC (if acErr P l X = 0 then X.b else ⟨0, 0⟩) (.slice p1 (if acErr P l X = 0 then insV l X else []).length c1)).toArray 85) ∧ Ots h1.size 80 voteC 8 g' (.slice p1 (if acErr P l X = 0 then insV l X else []).length c1) (if acErr P l X = 0 then insV l X else [])) ?_ ?_ (fun _ _ _ h => h) (fun _ _ h => h)
  · refine VS.w (h1.size) [] (.q 0 (.q 1 (.q 3 (.q 5 (.q 8 (.or 2 (.or 4 (.or 6 (.q 7 (.q 9 (.or 10 (.q 11 (.q 12 (.q 13 (.s 14 (.s 15 (.q 16 .nil)))))) (.s 14 (.s 10 (.q 11 (.q 12 (.q 13 (.s 15 (.q 16 .nil)))))))))) (.s 14 (.s 6 (.q 7 (.q 9 (.s 10 (.q 11 (.q 12 (.q 13 (.s 15 (.q 16 .nil))))))))))) (.s 14 (.s 4 (.s 6 (.q 7 (.q 9 (.s 10 (.q 11 (.q 12 (.q 13 (.s 15 (.q 16 .nil)))))))))))) (.s 14 (.s 2 (.s 4 (.s 6 (.q 7 (.q 9 (.s 10 (.q 11 (.q 12 (.q 13 (.s 15 (.q 16 .nil)))))))))))))))))) mixed (by kernel_rfl) ?_
    simp (config := {maxSteps := 2000000, implicitDefEqProofs := false}) only [go_sem, ↓reduceIte, Nat.reduceEqDiff, Nat.reduceAdd, Nat.reduceMul, Nat.reduceLeDiff, Nat.reduceLT, Nat.reduceSub, IntWalk.iteOmega, IntWalk.toNatUp, reduceCtorEq, false_and, and_false, false_or, or_false, true_or, or_true, not_true_eq_false, not_false_eq_true, Bool.not_true, Bool.not_false, Bool.and_true, Bool.true_and, Bool.and_false, Bool.false_and, Bool.not_eq_true, beq_self_eq_true, Nat.add_zero, Int.reduceLE, Int.reduceLT, Int.reduceToNat, Int.reduceNeg, r1, rc1, k0h, kch, k33, d1, d5, d9, c0h, Int.toNat_natCast]
    repeat' (first
        | with_reducible exact Bel.refl _ _
        | with_reducible exact Bel.push (by omega) _
        | (with_reducible refine (fourHighI_ok T _ _ b 1 1 rfl (by first | exact sbx | exact sbx.bel (Bel.push (Nat.le_refl _) _)) (by omega) (by omega)).pure ?_; simp (config := {maxSteps := 2000000, implicitDefEqProofs := false}) only [go_sem, ↓reduceIte, Nat.reduceEqDiff, Nat.reduceAdd, Nat.reduceMul, Nat.reduceLeDiff, Nat.reduceLT, Nat.reduceSub, IntWalk.iteOmega, IntWalk.toNatUp, reduceCtorEq, false_and, and_false, false_or, or_false, true_or, or_true, not_true_eq_false, not_false_eq_true, Bool.not_true, Bool.not_false, Bool.and_true, Bool.true_and, Bool.and_false, Bool.false_and, Bool.not_eq_true, beq_self_eq_true, Nat.add_zero, Int.reduceLE, Int.reduceLT, Int.reduceToNat, Int.reduceNeg, r1, rc1, k0h, kch, c0h, Int.toNat_natCast])
        | (with_reducible refine (fourHighI_ok T _ _ b 5 5 rfl (by first | exact sbx | exact sbx.bel (Bel.push (Nat.le_refl _) _)) (by omega) (by omega)).pure ?_; simp (config := {maxSteps := 2000000, implicitDefEqProofs := false}) only [go_sem, ↓reduceIte, Nat.reduceEqDiff, Nat.reduceAdd, Nat.reduceMul, Nat.reduceLeDiff, Nat.reduceLT, Nat.reduceSub, IntWalk.iteOmega, IntWalk.toNatUp, reduceCtorEq, false_and, and_false, false_or, or_false, true_or, or_true, not_true_eq_false, not_false_eq_true, Bool.not_true, Bool.not_false, Bool.and_true, Bool.true_and, Bool.and_false, Bool.false_and, Bool.not_eq_true, beq_self_eq_true, Nat.add_zero, Int.reduceLE, Int.reduceLT, Int.reduceToNat, Int.reduceNeg, r1, rc1, k0h, kch, c0h, Int.toNat_natCast])
        | (with_reducible refine (fourHighI_ok T _ _ b 9 9 rfl (by first | exact sbx | exact sbx.bel (Bel.push (Nat.le_refl _) _)) (by omega) (by omega)).pure ?_; simp (config := {maxSteps := 2000000, implicitDefEqProofs := false}) only [go_sem, ↓reduceIte, Nat.reduceEqDiff, Nat.reduceAdd, Nat.reduceMul, Nat.reduceLeDiff, Nat.reduceLT, Nat.reduceSub, IntWalk.iteOmega, IntWalk.toNatUp, reduceCtorEq, false_and, and_false, false_or, or_false, true_or, or_true, not_true_eq_false, not_false_eq_true, Bool.not_true, Bool.not_false, Bool.and_true, Bool.true_and, Bool.and_false, Bool.false_and, Bool.not_eq_true, beq_self_eq_true, Nat.add_zero, Int.reduceLE, Int.reduceLT, Int.reduceToNat, Int.reduceNeg, r1, rc1, k0h, kch, c0h, Int.toNat_natCast])
        | with_reducible refine And.intro ?_ ?_)
    all_goals first
      | (refine (call h1 s1').use ?_
         rintro _ g1 ⟨⟨w1, rfl, o1⟩, b1⟩
         obtain ⟨p1, c1, rfl, _⟩ := o1.open
         generalize (if acErr P l X = 0 then X.b else ⟨0, 0⟩) = Y at *
         generalize (if acErr P l X = 0 then insV l X else []) = L at *
         generalize acErr P l X = E at *
         have s1 := b1.size
         unfold accC
         simp (config := {maxSteps := 2000000, implicitDefEqProofs := false}) only [go_sem, ↓reduceIte, Nat.reduceEqDiff, Nat.reduceAdd, Nat.reduceMul, Nat.reduceLeDiff, Nat.reduceLT, Nat.reduceSub, IntWalk.iteOmega, IntWalk.toNatUp, reduceCtorEq, false_and, and_false, false_or, or_false, true_or, or_true, not_true_eq_false, not_false_eq_true, Bool.not_true, Bool.not_false, Bool.and_true, Bool.true_and, Bool.and_false, Bool.false_and, Bool.not_eq_true, beq_self_eq_true, Nat.add_zero, Int.reduceLE, Int.reduceLT, Int.reduceToNat, Int.reduceNeg, b1]
         exact ⟨_, _, _, s1, rfl, get_push_last, o1.push _⟩)
      | (refine (call (h1.push (.cells [.int .i64 0, .int .i64 0, .slice none 0 0].toArray 85)) (s1'.bel (Bel.push (Nat.le_refl _) _))).use ?_
         rintro _ g1 ⟨⟨w1, rfl, o1⟩, b1⟩
         obtain ⟨p1, c1, rfl, _⟩ := o1.open
         generalize (if acErr P l X = 0 then X.b else ⟨0, 0⟩) = Y at *
         generalize (if acErr P l X = 0 then insV l X else []) = L at *
         generalize acErr P l X = E at *
         have B1 : Bel h1.size h1 g1 := (Bel.push (Nat.le_refl _) _).trans (b1.mono (by simp))
         have xA := b1.get (by simp) get_push_last
         have yA := fin g1 h1.size [.int .i64 Y.r, .int .i64 Y.n, .slice p1 L.length c1] rfl rfl xA
         have hz := lt_of_get xA
         unfold accC
         simp (config := {maxSteps := 2000000, implicitDefEqProofs := false}) only [go_sem, ↓reduceIte, Nat.reduceEqDiff, Nat.reduceAdd, Nat.reduceMul, Nat.reduceLeDiff, Nat.reduceLT, Nat.reduceSub, IntWalk.iteOmega, IntWalk.toNatUp, reduceCtorEq, false_and, and_false, false_or, or_false, true_or, or_true, not_true_eq_false, not_false_eq_true, Bool.not_true, Bool.not_false, Bool.and_true, Bool.true_and, Bool.and_false, Bool.false_and, Bool.not_eq_true, beq_self_eq_true, Nat.add_zero, Int.reduceLE, Int.reduceLT, Int.reduceToNat, Int.reduceNeg, B1, yA, hz]
         exact ⟨_, _, _, Nat.le_refl _, rfl, get_set xA, (o1.setLow (b := h1.size) (by simp) _).mono (by simp)⟩)
  · rintro F' g' ⟨hB, f4, f8, A, p1, c1, hA, f6, xA, oA⟩
    have z1 := hB.get (by omega) z1h
    have k1' := lt_of_get z1
    have rA : rd g' ⟨A, 0, none⟩ 3 = _ := rd_last xA rfl
    generalize hY : (if acErr P l X = 0 then X.b else ⟨0, 0⟩) = Y at *
    generalize hL : (if acErr P l X = 0 then insV l X else []) = L at *
    generalize acErr P l X = E at *
    unfold accC at rA
    have wz := fin g' (h.size + 1) [.int .i64 Y.r, .int .i64 Y.n, .slice p1 L.length c1] rfl rfl z1
    have bb' : Bel h.size h (g'.setIfInBounds (h.size + 1) (.cells [.int .i64 Y.r, .int .i64 Y.n, .slice p1 L.length c1].toArray 85)) := (B1.trans (hB.mono (by omega))).addSet (by omega) _
    by_cases q : E = 0
    · rw [if_pos q] at e hY hL
      simp (config := {maxSteps := 2000000, implicitDefEqProofs := false}) only [go_sem, ↓reduceIte, Nat.reduceEqDiff, Nat.reduceAdd, Nat.reduceMul, Nat.reduceLeDiff, Nat.reduceLT, Nat.reduceSub, IntWalk.iteOmega, IntWalk.toNatUp, reduceCtorEq, false_and, and_false, false_or, or_false, true_or, or_true, not_true_eq_false, not_false_eq_true, Bool.not_true, Bool.not_false, Bool.and_true, Bool.true_and, Bool.and_false, Bool.false_and, Bool.not_eq_true, beq_self_eq_true, Nat.add_zero, Int.reduceLE, Int.reduceLT, Int.reduceToNat, Int.reduceNeg, f4, f6, f8, rA, wz, k1', q, e]
      refine ⟨⟨Y, p1, L.length, c1, rfl, fun x hx => ?_⟩, bb'⟩
      cases hx
      exact ⟨hY.symm, by rw [hL]; exact (oA.setLow (by omega) _).mono (by omega)⟩
    · rw [if_neg q] at e
      simp (config := {maxSteps := 2000000, implicitDefEqProofs := false}) only [go_sem, ↓reduceIte, Nat.reduceEqDiff, Nat.reduceAdd, Nat.reduceMul, Nat.reduceLeDiff, Nat.reduceLT, Nat.reduceSub, IntWalk.iteOmega, IntWalk.toNatUp, reduceCtorEq, false_and, and_false, false_or, or_false, true_or, or_true, not_true_eq_false, not_false_eq_true, Bool.not_true, Bool.not_false, Bool.and_true, Bool.true_and, Bool.and_false, Bool.false_and, Bool.not_eq_true, beq_self_eq_true, Nat.add_zero, Int.reduceLE, Int.reduceLT, Int.reduceToNat, Int.reduceNeg, f4, f6, f8, rA, wz, k1', q, e]
      exact ⟨⟨Y, p1, L.length, c1, rfl, by simp⟩, bb'⟩
end Go.Proofs.YtnpacofabdgcdaaDoor
