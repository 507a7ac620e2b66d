/- What is sent on a line, on both sides; no condition but those in the statements. -/
import Derived.Test.YtnpacofabdgcdaaDoorSel
import Derived.Test.YtnpacofabdgcdaaDoorLine
import Derived.Test.YtnpacofabdgcdaaDoorW13
namespace Go.Proofs.YtnpacofabdgcdaaDoor
open Go Go.V
set_option linter.unusedSimpArgs false
set_option linter.unusedVariables false
set_option maxRecDepth 100000
def head4 (n : Nat) : List Nat := [n / 16777216 % 256, n / 65536 % 256, n / 256 % 256, n % 256]
theorem head4_byte (n : Nat) : ∀ x ∈ head4 n, x < 256 := by
  intro x hx
  simp only [head4, List.mem_cons, List.not_mem_nil, or_false] at hx
  omega
theorem shr_i64' (n k : Nat) (hk : k ≤ 64) : shrOp .i64 (n : Int) (k : Int) = ((n / 2 ^ k : Nat) : Int) := by
  rw [shr_nat .i64 n k hk, Nat.shiftRight_eq_div_pow]
theorem lineFour_ok (T : World) (h : Hp) (n : Nat) (hn : n ≤ 1073741824) :
    CallsH Tryd.prog T 147 #[.int .i64 n] h fun v' h' => OBs h.size 5 h' v' (head4 n) ∧ Bel h.size h h' := by
  refine CallsH.of_code' (args := [_]) Tryd.func147 rfl rfl rfl rfl ?_
  have e1 : shrOp .i64 (n : Int) 24 % 256 = ((n / 16777216 % 256 : Nat) : Int) := by rw [show (24 : Int) = ((24 : Nat) : Int) from rfl, shr_i64' n 24 (by omega)]; omega
  have e2 : shrOp .i64 (n : Int) 16 % 256 = ((n / 65536 % 256 : Nat) : Int) := by rw [show (16 : Int) = ((16 : Nat) : Int) from rfl, shr_i64' n 16 (by omega)]; omega
  have e3 : shrOp .i64 (n : Int) 8 % 256 = ((n / 256 % 256 : Nat) : Int) := by rw [show (8 : Int) = ((8 : Nat) : Int) from rfl, shr_i64' n 8 (by omega)]; omega
  have e4 : (n : Int) % 256 = ((n % 256 : Nat) : Int) := by omega
  simp (config := {maxSteps := 2000000, implicitDefEqProofs := false}) only [go_sem, ↓reduceIte, Nat.reduceEqDiff, Nat.reduceAdd, Nat.reduceMul, Nat.reduceLeDiff, Nat.reduceLT, Nat.reduceSub, IntWalk.iteOmega, IntWalk.toNatUp, reduceCtorEq, false_and, and_false, false_or, or_false, true_or, or_true, not_true_eq_false, not_false_eq_true, Bool.not_true, Bool.not_false, Bool.and_true, Bool.true_and, Bool.and_false, Bool.false_and, Bool.not_eq_true, beq_self_eq_true, Nat.add_zero, Int.reduceLE, Int.reduceLT, Int.reduceToNat, Int.reduceNeg, e1, e2, e3, e4]
  exact OBs.made (l := head4 n) (head4_byte n) (Nat.le_refl _)
theorem lineHead_ok (T : World) (h : Hp) (n : Nat) (hn : n ≤ 1073741824) :
    CallsH Tryd.prog T 79 #[.int .i64 n] h fun v' h' => OBs h.size 5 h' v' (head4 n) ∧ Bel h.size h h' := by
  refine CallsH.of_code' (args := [_]) Tryd.func79 rfl rfl rfl rfl ?_
  have e1 : (n : Int).tdiv 16777216 = ((n / 16777216 : Nat) : Int) := rfl
  have e2 : (n : Int).tdiv 65536 = ((n / 65536 : Nat) : Int) := rfl
  have e3 : (n : Int).tdiv 256 = ((n / 256 : Nat) : Int) := rfl
  have e4 : ((n / 65536 : Nat) : Int).tmod 256 = ((n / 65536 % 256 : Nat) : Int) := rfl
  have e5 : ((n / 256 : Nat) : Int).tmod 256 = ((n / 256 % 256 : Nat) : Int) := rfl
  have e6 : (n : Int).tmod 256 = ((n % 256 : Nat) : Int) := rfl
  have f1 : ((n / 16777216 : Nat) : Int) % 256 = ((n / 16777216 % 256 : Nat) : Int) := by omega
  have f2 : ((n / 65536 % 256 : Nat) : Int) % 256 = ((n / 65536 % 256 : Nat) : Int) := by omega
  have f3 : ((n / 256 % 256 : Nat) : Int) % 256 = ((n / 256 % 256 : Nat) : Int) := by omega
  have f4 : ((n % 256 : Nat) : Int) % 256 = ((n % 256 : Nat) : Int) := by omega
  simp (config := {maxSteps := 2000000, implicitDefEqProofs := false}) only [go_sem, ↓reduceIte, Nat.reduceEqDiff, Nat.reduceAdd, Nat.reduceMul, Nat.reduceLeDiff, Nat.reduceLT, Nat.reduceSub, IntWalk.iteOmega, IntWalk.toNatUp, reduceCtorEq, false_and, and_false, false_or, or_false, true_or, or_true, not_true_eq_false, not_false_eq_true, Bool.not_true, Bool.not_false, Bool.and_true, Bool.true_and, Bool.and_false, Bool.false_and, Bool.not_eq_true, beq_self_eq_true, Nat.add_zero, Int.reduceLE, Int.reduceLT, Int.reduceToNat, Int.reduceNeg, e1, e2, e3, e4, e5, e6, f1, f2, f3, f4]
  exact OBs.made (l := head4 n) (head4_byte n) (Nat.le_refl _)
def nonceS (l : List Nat) : List Nat := List.replicate 8 0 ++ l
theorem zero12 : (zrep 12 [Value.int .u8 0]) = (List.replicate 12 0).map bv := rfl
theorem lineNonce_ok (T : World) (h : Hp) (v : Value) (l : List Nat) (s : Bs h v l) (hl : l.length ≤ 1000) :
    CallsH Tryd.prog T 149 #[v] h fun v' h' => OBs h.size 5 h' v' (nonceS l) ∧ Bel h.size h h' := by
  refine CallsH.of_code' (args := [_]) Tryd.func149 rfl rfl rfl rfl ?_
  simp (config := {maxSteps := 2000000, implicitDefEqProofs := false}) only [go_sem, ↓reduceIte, Nat.reduceEqDiff, Nat.reduceAdd, Nat.reduceMul, Nat.reduceLeDiff, Nat.reduceLT, Nat.reduceSub, IntWalk.iteOmega, IntWalk.toNatUp, reduceCtorEq, false_and, and_false, false_or, or_false, true_or, or_true, not_true_eq_false, not_false_eq_true, Bool.not_true, Bool.not_false, Bool.and_true, Bool.true_and, Bool.and_false, Bool.false_and, Bool.not_eq_true, beq_self_eq_true, Nat.add_zero, Int.reduceLE, Int.reduceLT, Int.reduceToNat, Int.reduceNeg, zero12]
  have o1 : OBs h.size 5 (h.push (.cells ((List.replicate 12 0).map bv).toArray 5)) (.slice (some ⟨h.size, 0, none⟩) 8 12) (List.replicate 8 0) := by
    refine ⟨.inr ⟨h.size, 12, (List.replicate 4 0).map bv, Nat.le_refl _, rfl, ?_, by simp, by simp, by simp⟩, fun x hx => by rw [List.eq_of_mem_replicate hx]; decide⟩
    rw [get_push_last, ← List.map_append]; rfl
  refine append_bytes (E := 5) (B := h.size) tsl29 Tryd.underlying29 tn5 tz5 tb5 o1 (by simp) (s.bel (Bel.push (Nat.le_refl _) _)) (by simp; omega) ?_
  intro v' h' ho' hb' _
  simp (config := {maxSteps := 2000000, implicitDefEqProofs := false}) only [go_sem, ↓reduceIte, Nat.reduceEqDiff, Nat.reduceAdd, Nat.reduceMul, Nat.reduceLeDiff, Nat.reduceLT, Nat.reduceSub, IntWalk.iteOmega, IntWalk.toNatUp, reduceCtorEq, false_and, and_false, false_or, or_false, true_or, or_true, not_true_eq_false, not_false_eq_true, Bool.not_true, Bool.not_false, Bool.and_true, Bool.true_and, Bool.and_false, Bool.false_and, Bool.not_eq_true, beq_self_eq_true, Nat.add_zero, Int.reduceLE, Int.reduceLT, Int.reduceToNat, Int.reduceNeg]
  exact ⟨ho', (Bel.push (Nat.le_refl _) _).trans hb'⟩
def sendErr (n : Nat) (sent top : Int) (s : List Bool) (m : Nat) : Int := if chanErr n sent top s ≠ 0 then 5 else if 2000 < m then 1 else if sent = 1073741824 then 8 else 0
def noSeen : List Bool := [false, false, false, false, false, false, false, false]
def recS (kl : List Nat) (n : Nat) (plain : List Nat) : List Nat := head4 n ++ sealS kl (nonceS (head4 n)) (head4 n) plain
def ChanW (B : Nat) (h' : Hp) (cw : Value) (e : Int) (kl : List Nat) (sent top : Int) (s : List Bool) : Prop := ChanRes B h' cw (if e = 0 then kl else []) (if e = 0 then sent else 0) (if e = 0 then top else 0) (if e = 0 then s else noSeen)
def SendRes (B : Nat) (h' : Hp) (v' : Value) (kl : List Nat) (sent top : Int) (s : List Bool) (plain : List Nat) : Prop := ∃ cw w, v' = .tuple [cw, w, .int .i64 (sendErr kl.length sent top s plain.length)].toArray ∧
  ChanW B h' cw (sendErr kl.length sent top s plain.length) kl (sent + 1) top s ∧ OBs B 5 h' w (if sendErr kl.length sent top s plain.length = 0 then recS kl sent.toNat plain else [])
theorem chanErr_five (n : Nat) (sent top : Int) (s : List Bool) : chanErr n sent top s = 0 ∨ chanErr n sent top s = 5 := by
  unfold chanErr
  repeat' split
  all_goals simp
theorem chanErr_zero {n : Nat} {sent top : Int} {s : List Bool} (e : chanErr n sent top s = 0) : n = 32 ∧ 0 ≤ sent ∧ sent ≤ 1073741824 ∧ 0 ≤ top ∧ top ≤ 1073741824 := by
  unfold chanErr at e
  split at e
  · cases e
  · omega
theorem wrZ {G : Hp} {b : Nat} (hx : G[b]? = some (.cells chanZ.toArray 143)) {w : List Value} (h11 : w.length = 11) (h1 : w.all oneC = true) : wr G ⟨b, 0, none⟩ w = some (G.setIfInBounds b (.cells w.toArray 143)) := by
  rw [wr_get hx 0 w, lput_full (by rw [h11]; rfl), if_pos ⟨by rw [h11]; exact Nat.le_refl _, h1⟩]
set_option maxHeartbeats 1000000 in
theorem lineSend_ok (T : World) (h : Hp) (k u : Value) (kl plain : List Nat) (sent top : Int) (s : List Bool) (hs : s.length = 8) (sk : Bs h k kl) (sp : Bs h u plain) (ck : Cap k) :
    CallsH Tryd.prog T 109 #[.agg (chanC k sent top s).toArray, u] h fun v' h' => SendRes h.size h' v' kl sent top s plain ∧ Bel h.size h h' := by
  obtain ⟨p, c, rfl, _⟩ := sk.open
  obtain ⟨q, d, rfl, _⟩ := sp.open
  have hC11 := chanC_length (.slice p kl.length c) sent top s hs
  have tk := take_len hC11
  refine CallsH.of_code2 (args := [_, _]) Tryd.func109 rfl rfl rfl rfl ?_
  simp (config := {maxSteps := 2000000, implicitDefEqProofs := false}) only [go_sem, ↓reduceIte, Nat.reduceEqDiff, Nat.reduceAdd, Nat.reduceMul, Nat.reduceLeDiff, Nat.reduceLT, Nat.reduceSub, IntWalk.iteOmega, IntWalk.toNatUp, reduceCtorEq, false_and, and_false, false_or, or_false, true_or, or_true, not_true_eq_false, not_false_eq_true, Bool.not_true, Bool.not_false, Bool.and_true, Bool.true_and, Bool.and_false, Bool.false_and, Bool.not_eq_true, beq_self_eq_true, Nat.add_zero, Int.reduceLE, Int.reduceLT, Int.reduceToNat, Int.reduceNeg, hC11, tk]
  have hpush : Bel h.size h ((h.push (.cells (chanC (.slice p kl.length c) sent top s).toArray 143)).push (.cells chanZ.toArray 143)) := by (repeat' (first | exact Bel.refl _ _ | assumption | refine Bel.add ?_ _ | refine Bel.addSet ?_ (by first | omega | (simp; omega)) _ | refine Bel.trans (by assumption) ?_))
  refine (lineCheck_ok T _ p kl.length c sent top s hs).use ?_
  rintro _ g1 ⟨rfl, b1⟩
  have x0 : g1[h.size]? = some (.cells (chanC (.slice p kl.length c) sent top s).toArray 143) := b1.get (by simp only [Array.size_push]; omega) (by simp only [Array.getElem?_push, Array.size_push, IntWalk.iteOmega, ↓reduceIte])
  have x1 : g1[h.size + 1]? = some (.cells chanZ.toArray 143) := b1.get (by simp only [Array.size_push]; omega) (by simp only [Array.getElem?_push, Array.size_push, IntWalk.iteOmega, ↓reduceIte]; rfl)
  have hB1 : Bel h.size h g1 := hpush.trans (b1.mono (by simp; omega))
  have z1 := lt_of_get x1
  clear b1 hpush
  have hse : sendErr kl.length sent top s plain.length = if chanErr kl.length sent top s ≠ 0 then 5 else if 2000 < plain.length then 1 else if sent = 1073741824 then 8 else 0 := rfl
  unfold SendRes ChanW
  obtain ⟨E, hE⟩ : ∃ E, E = sendErr kl.length sent top s plain.length := ⟨_, rfl⟩
  rw [← hE] at hse ⊢
  have wz := wrZ x1 (w := [.slice none 0 0, .int .i64 0, .int .i64 0, .bool false, .bool false, .bool false, .bool false, .bool false, .bool false, .bool false, .bool false]) rfl rfl
  have hBz : Bel h.size h (g1.setIfInBounds (h.size + 1) (.cells #[.slice none 0 0, .int .i64 0, .int .i64 0, .bool false, .bool false, .bool false, .bool false, .bool false, .bool false, .bool false, .bool false] 143)) := hB1.addSet (by omega) _
  by_cases e0 : chanErr kl.length sent top s = 0
  · obtain ⟨hk, s0, s1, t0, t1⟩ := chanErr_zero e0
    rw [if_neg (by simp [e0])] at hse
    by_cases hm : 2000 < plain.length
    · rw [if_pos hm] at hse
      have hm' : 2000 < (plain.length : Int) := by omega
      simp (config := {maxSteps := 2000000, implicitDefEqProofs := false}) only [go_sem, ↓reduceIte, Nat.reduceEqDiff, Nat.reduceAdd, Nat.reduceMul, Nat.reduceLeDiff, Nat.reduceLT, Nat.reduceSub, IntWalk.iteOmega, IntWalk.toNatUp, reduceCtorEq, false_and, and_false, false_or, or_false, true_or, or_true, not_true_eq_false, not_false_eq_true, Bool.not_true, Bool.not_false, Bool.and_true, Bool.true_and, Bool.and_false, Bool.false_and, Bool.not_eq_true, beq_self_eq_true, Nat.add_zero, Int.reduceLE, Int.reduceLT, Int.reduceToNat, Int.reduceNeg, e0, hm', wz, z1]
      exact ⟨⟨_, _, by rw [hse]; rfl, ⟨_, rfl, OBs.nil _ _ _⟩, OBs.nil _ _ _⟩, hBz⟩
    · rw [if_neg hm] at hse
      have hm' : ¬ 2000 < (plain.length : Int) := by omega
      have y1 : V.hc g1 ⟨h.size, 1, none⟩ = some (.int .i64 sent) := by rw [hc_last x0]; rfl
      have y0 : V.hc g1 ⟨h.size, 0, none⟩ = some (.slice p kl.length c) := by rw [hc_last x0]; rfl
      by_cases hf : sent = 1073741824
      · rw [if_pos hf] at hse
        have hf' : (sent = 1073741824) = True := eq_true hf
        simp (config := {maxSteps := 2000000, implicitDefEqProofs := false}) only [go_sem, ↓reduceIte, Nat.reduceEqDiff, Nat.reduceAdd, Nat.reduceMul, Nat.reduceLeDiff, Nat.reduceLT, Nat.reduceSub, IntWalk.iteOmega, IntWalk.toNatUp, reduceCtorEq, false_and, and_false, false_or, or_false, true_or, or_true, not_true_eq_false, not_false_eq_true, Bool.not_true, Bool.not_false, Bool.and_true, Bool.true_and, Bool.and_false, Bool.false_and, Bool.not_eq_true, beq_self_eq_true, Nat.add_zero, Int.reduceLE, Int.reduceLT, Int.reduceToNat, Int.reduceNeg, e0, hm', y1, hf', wz, z1]
        exact ⟨⟨_, _, by rw [hse]; rfl, ⟨_, rfl, OBs.nil _ _ _⟩, OBs.nil _ _ _⟩, hBz⟩
      · rw [if_neg hf] at hse
        rw [hse]
        obtain ⟨n, rfl⟩ : ∃ n : Nat, sent = n := ⟨sent.toNat, by omega⟩
        rw [Int.toNat_natCast]
        simp (config := {maxSteps := 2000000, implicitDefEqProofs := false}) only [go_sem, ↓reduceIte, Nat.reduceEqDiff, Nat.reduceAdd, Nat.reduceMul, Nat.reduceLeDiff, Nat.reduceLT, Nat.reduceSub, IntWalk.iteOmega, IntWalk.toNatUp, reduceCtorEq, false_and, and_false, false_or, or_false, true_or, or_true, not_true_eq_false, not_false_eq_true, Bool.not_true, Bool.not_false, Bool.and_true, Bool.true_and, Bool.and_false, Bool.false_and, Bool.not_eq_true, beq_self_eq_true, Nat.add_zero, Int.reduceLE, Int.reduceLT, Int.reduceToNat, Int.reduceNeg, e0, hm', y1, hf]
        refine (lineFour_ok T _ n (by omega)).use ?_
        rintro vh g2 ⟨oh, b2⟩
        have z2 := b2.size
        have x0' := b2.get (by omega) x0
        have x1' := b2.get (by omega) x1
        have y0' : V.hc g2 ⟨h.size, 0, none⟩ = some (.slice p kl.length c) := by rw [hc_last x0']; rfl
        have hB2 := hB1.trans (b2.mono hB1.size)
        have hlt2 : h.size < g2.size := by omega
        simp (config := {maxSteps := 2000000, implicitDefEqProofs := false}) only [go_sem, ↓reduceIte, Nat.reduceEqDiff, Nat.reduceAdd, Nat.reduceMul, Nat.reduceLeDiff, Nat.reduceLT, Nat.reduceSub, IntWalk.iteOmega, IntWalk.toNatUp, reduceCtorEq, false_and, and_false, false_or, or_false, true_or, or_true, not_true_eq_false, not_false_eq_true, Bool.not_true, Bool.not_false, Bool.and_true, Bool.true_and, Bool.and_false, Bool.false_and, Bool.not_eq_true, beq_self_eq_true, Nat.add_zero, Int.reduceLE, Int.reduceLT, Int.reduceToNat, Int.reduceNeg]
        refine VS.w (g2.size) [] (.q 0 (.q 1 (.q 2 (.q 4 (.q 5 (.s 3 (.s 6 (.q 7 (.q 8 (.q 9 (.q 10 (.q 11 .nil)))))))))))) mixed (by kernel_rfl) ?_
        simp (config := {maxSteps := 2000000, implicitDefEqProofs := false}) only [go_sem, ↓reduceIte, Nat.reduceEqDiff, Nat.reduceAdd, Nat.reduceMul, Nat.reduceLeDiff, Nat.reduceLT, Nat.reduceSub, IntWalk.iteOmega, IntWalk.toNatUp, reduceCtorEq, false_and, and_false, false_or, or_false, true_or, or_true, not_true_eq_false, not_false_eq_true, Bool.not_true, Bool.not_false, Bool.and_true, Bool.true_and, Bool.and_false, Bool.false_and, Bool.not_eq_true, beq_self_eq_true, Nat.add_zero, Int.reduceLE, Int.reduceLT, Int.reduceToNat, Int.reduceNeg, y0', hlt2]
        refine (lineNonce_ok T _ _ _ oh.bs (by simp [head4])).use ?_
        rintro vn g3 ⟨on, b3⟩
        have z3 := b3.size
        have b3T : Bel g2.size g2 g3 = True := eq_true b3
        simp (config := {maxSteps := 2000000, implicitDefEqProofs := false}) only [go_sem, ↓reduceIte, Nat.reduceEqDiff, Nat.reduceAdd, Nat.reduceMul, Nat.reduceLeDiff, Nat.reduceLT, Nat.reduceSub, IntWalk.iteOmega, IntWalk.toNatUp, reduceCtorEq, false_and, and_false, false_or, or_false, true_or, or_true, not_true_eq_false, not_false_eq_true, Bool.not_true, Bool.not_false, Bool.and_true, Bool.true_and, Bool.and_false, Bool.false_and, Bool.not_eq_true, beq_self_eq_true, Nat.add_zero, Int.reduceLE, Int.reduceLT, Int.reduceToNat, Int.reduceNeg, b3T]
        refine (seal_ok T _ _ _ _ _ kl (nonceS (head4 n)) (head4 n) plain ((sk.bel hB2).bel b3) on.bs (oh.bs.bel b3) ((sp.bel hB2).bel b3) ck on.cap).use ?_
        rintro _ g4 ⟨⟨w4, rfl, o4⟩, b4⟩
        have z4 := b4.size
        have eS : sealErr kl.length (nonceS (head4 n)).length (head4 n).length plain.length 2000 = 0 := by
          unfold sealErr nonceS head4; rw [if_neg]; simp; omega
        rw [eS, if_pos rfl] at o4
        rw [eS]
        have b34 : Bel g2.size g2 g4 := b3.trans (b4.mono z3)
        have b34T : Bel g2.size g2 g4 = True := eq_true b34
        have x0'' := b34.get (by omega) x0'
        have x1'' := b34.get (by omega) x1'
        have hB4 := hB2.trans (b34.mono hB2.size)
        have rC : rd g4 ⟨h.size, 0, none⟩ 11 = some (chanC (.slice p kl.length c) n top s) := rd_last x0'' hC11
        simp (config := {maxSteps := 2000000, implicitDefEqProofs := false}) only [go_sem, ↓reduceIte, Nat.reduceEqDiff, Nat.reduceAdd, Nat.reduceMul, Nat.reduceLeDiff, Nat.reduceLT, Nat.reduceSub, IntWalk.iteOmega, IntWalk.toNatUp, reduceCtorEq, false_and, and_false, false_or, or_false, true_or, or_true, not_true_eq_false, not_false_eq_true, Bool.not_true, Bool.not_false, Bool.and_true, Bool.true_and, Bool.and_false, Bool.false_and, Bool.not_eq_true, beq_self_eq_true, Nat.add_zero, Int.reduceLE, Int.reduceLT, Int.reduceToNat, Int.reduceNeg, b34T, rC]
        refine (own_ok T _ _ kl n top s hs (sk.bel hB4) (by omega)).use ?_
        rintro _ g5 ⟨⟨w5, rfl, o5⟩, b5⟩
        have z5 := b5.size
        obtain ⟨pw, cw, rfl, _⟩ := o5.open
        have x1''' := b5.get (by omega) x1''
        have hD11 := chanC_length (.slice pw kl.length cw) n top s hs
        have tkD := take_len hD11
        have oD := chanC_one (p := pw) (n := kl.length) (c := cw) n top s
        have lpD : ∀ v, lput [v, .int .i64 0, .int .i64 0, .bool false, .bool false, .bool false, .bool false, .bool false, .bool false, .bool false, .bool false] 0 (chanC (.slice pw kl.length cw) n top s) = chanC (.slice pw kl.length cw) n top s := fun v => lput_full hD11
        have nD : nth (chanC (.slice pw kl.length cw) n top s) 1 = some (.int .i64 n) := rfl
        have e1 : (n : Int) + 1 = ((n + 1 : Nat) : Int) := rfl
        have sD : (chanC (.slice pw kl.length cw) n top s).set 1 (.int .i64 ((n + 1 : Nat) : Int)) = chanC (.slice pw kl.length cw) ((n + 1 : Nat) : Int) top s := rfl
        have hD11' := chanC_length (.slice pw kl.length cw) ((n + 1 : Nat) : Int) top s hs
        have tkD' := take_len hD11'
        have oD' := chanC_one (p := pw) (n := kl.length) (c := cw) ((n + 1 : Nat) : Int) top s
        simp (config := {maxSteps := 2000000, implicitDefEqProofs := false}) only [go_sem, ↓reduceIte, Nat.reduceEqDiff, Nat.reduceAdd, Nat.reduceMul, Nat.reduceLeDiff, Nat.reduceLT, Nat.reduceSub, IntWalk.iteOmega, IntWalk.toNatUp, reduceCtorEq, false_and, and_false, false_or, or_false, true_or, or_true, not_true_eq_false, not_false_eq_true, Bool.not_true, Bool.not_false, Bool.and_true, Bool.true_and, Bool.and_false, Bool.false_and, Bool.not_eq_true, beq_self_eq_true, Nat.add_zero, Int.reduceLE, Int.reduceLT, Int.reduceToNat, Int.reduceNeg, hD11, tkD, oD, lpD, nD, e1, sD]
        have rJ : rd (g5.push (.cells (chanC (.slice pw kl.length cw) ((n + 1 : Nat) : Int) top s).toArray 143)) ⟨g5.size, 0, none⟩ 11 = some (chanC (.slice pw kl.length cw) ((n + 1 : Nat) : Int) top s) := rd_last get_push_last hD11'
        have xJ : (g5.push (.cells (chanC (.slice pw kl.length cw) ((n + 1 : Nat) : Int) top s).toArray 143))[g5.size]? = some (.cells (chanC (.slice pw kl.length cw) ((n + 1 : Nat) : Int) top s).toArray 143) := get_push_last
        have xZ : (g5.push (.cells (chanC (.slice pw kl.length cw) ((n + 1 : Nat) : Int) top s).toArray 143))[h.size + 1]? = some (.cells chanZ.toArray 143) := by rw [get_push_ne (by omega)]; exact x1'''
        have hB5 := hB4.trans (b5.mono hB4.size)
        have hBJ : Bel h.size h (g5.push (.cells (chanC (.slice pw kl.length cw) ((n + 1 : Nat) : Int) top s).toArray 143)) := hB5.addP hB5.size _
        have ohJ := (oh.bel (b34.trans (b5.mono (by omega))) (Nat.le_refl _)).push (.cells (chanC (.slice pw kl.length cw) ((n + 1 : Nat) : Int) top s).toArray 143)
        have owJ := o5.push (.cells (chanC (.slice pw kl.length cw) ((n + 1 : Nat) : Int) top s).toArray 143)
        have o4J := (o4.bel b5 (Nat.le_refl _)).push (.cells (chanC (.slice pw kl.length cw) ((n + 1 : Nat) : Int) top s).toArray 143)
        have zJ : (g5.push (.cells (chanC (.slice pw kl.length cw) ((n + 1 : Nat) : Int) top s).toArray 143)).size = g5.size + 1 := by simp
        have hlt := oh.own.lt
        have hblk := oh.own.blk
        have hwblk := o5.own.blk
        have hwlt := o5.own.lt
        have lS : (sealS kl (nonceS (head4 n)) (head4 n) plain).length ≤ 2016 := by
          have l1 := mixB_length kl 1 (nonceS (head4 n)) plain
          have l2 : (sealTagS kl (nonceS (head4 n)) (head4 n) (mixB kl 1 (nonceS (head4 n)) plain)).length ≤ 16 := tagL_le _ _
          unfold sealS; rw [List.length_append]; omega
        have lh : (head4 n).length = 4 := rfl
        obtain ⟨J, hJ⟩ : ∃ J, J = g5.push (.cells (chanC (.slice pw kl.length cw) ((n + 1 : Nat) : Int) top s).toArray 143) := ⟨_, rfl⟩
        rw [← hJ] at rJ xJ xZ hBJ ohJ owJ o4J zJ ⊢
        clear hJ
        have key : ∀ v' h', OBs g1.size 5 h' v' (head4 n ++ sealS kl (nonceS (head4 n)) (head4 n) plain) → Bel g1.size J h' → But (blkOf vh) J h' →
            rd h' ⟨g5.size, 0, none⟩ 11 = some (chanC (.slice pw kl.length cw) ((n + 1 : Nat) : Int) top s) ∧ wr h' ⟨h.size + 1, 0, none⟩ (chanC (.slice pw kl.length cw) ((n + 1 : Nat) : Int) top s) = some (h'.setIfInBounds (h.size + 1) (.cells (chanC (.slice pw kl.length cw) ((n + 1 : Nat) : Int) top s).toArray 143)) ∧
            (Bel (h.size + 1) J h' = True) ∧ (Bel (h.size + 1) J (h'.setIfInBounds (h.size + 1) (.cells (chanC (.slice pw kl.length cw) ((n + 1 : Nat) : Int) top s).toArray 143)) = True) ∧ h.size + 1 < h'.size ∧
            OBs h.size 5 (h'.setIfInBounds (h.size + 1) (.cells (chanC (.slice pw kl.length cw) ((n + 1 : Nat) : Int) top s).toArray 143)) (.slice pw kl.length cw) kl ∧
            OBs h.size 5 (h'.setIfInBounds (h.size + 1) (.cells (chanC (.slice pw kl.length cw) ((n + 1 : Nat) : Int) top s).toArray 143)) v' (recS kl n plain) ∧
            Bel h.size h (h'.setIfInBounds (h.size + 1) (.cells (chanC (.slice pw kl.length cw) ((n + 1 : Nat) : Int) top s).toArray 143)) := by
          intro v' h' ho' hb' hbut
          have xZ' := hb'.get (k := h.size + 1) (by omega) xZ
          have xJ' : h'[g5.size]? = some (.cells (chanC (.slice pw kl.length cw) ((n + 1 : Nat) : Int) top s).toArray 143) := by
            rw [hbut.block g5.size (by omega) (fun e => by have := hlt _ e; omega)]; exact xJ
          have ow' := owJ.but hbut (fun b hb e => by have := hwblk b hb; have := hlt _ e; omega)
          have hbel : Bel (h.size + 1) J h' := hb'.mono (by omega)
          exact ⟨rd_last xJ' hD11', wrZ xZ' hD11' oD', eq_true hbel, eq_true (hbel.addSet (Nat.le_refl _) _), lt_of_get xZ', (ow'.setLow (by omega) _).mono (by omega), (ho'.setLow (by omega) _).mono (by omega), (hBJ.trans (hb'.mono (by omega))).addSet (by omega) _⟩
        refine VS.w (h.size + 1) [] (.q 1 (.q 2 (.or 0 (.s 3 (.s 4 (.q 5 (.q 6 .nil)))) (.s 3 (.s 0 (.s 4 (.q 5 (.q 6 .nil)))))))) mixed (by kernel_rfl) ?_
        simp (config := {maxSteps := 2000000, implicitDefEqProofs := false}) only [go_sem, ↓reduceIte, Nat.reduceEqDiff, Nat.reduceAdd, Nat.reduceMul, Nat.reduceLeDiff, Nat.reduceLT, Nat.reduceSub, IntWalk.iteOmega, IntWalk.toNatUp, reduceCtorEq, false_and, and_false, false_or, or_false, true_or, or_true, not_true_eq_false, not_false_eq_true, Bool.not_true, Bool.not_false, Bool.and_true, Bool.true_and, Bool.and_false, Bool.false_and, Bool.not_eq_true, beq_self_eq_true, Nat.add_zero, Int.reduceLE, Int.reduceLT, Int.reduceToNat, Int.reduceNeg, rJ]
        refine ⟨?_, ?_⟩
        · refine append_bytes (E := 5) (B := g1.size) tsl29 Tryd.underlying29 tn5 tz5 tb5 ohJ (by omega) o4J.bs (by omega) ?_
          intro v' h' ho' hb' hbut
          obtain ⟨k1, k2, k3, k4, k5, k6, k7, k8⟩ := key v' h' ho' hb' hbut
          simp (config := {maxSteps := 2000000, implicitDefEqProofs := false}) only [go_sem, ↓reduceIte, Nat.reduceEqDiff, Nat.reduceAdd, Nat.reduceMul, Nat.reduceLeDiff, Nat.reduceLT, Nat.reduceSub, IntWalk.iteOmega, IntWalk.toNatUp, reduceCtorEq, false_and, and_false, false_or, or_false, true_or, or_true, not_true_eq_false, not_false_eq_true, Bool.not_true, Bool.not_false, Bool.and_true, Bool.true_and, Bool.and_false, Bool.false_and, Bool.not_eq_true, beq_self_eq_true, Nat.add_zero, Int.reduceLE, Int.reduceLT, Int.reduceToNat, Int.reduceNeg, k1, k2, k3, k4, k5, hD11', tkD']
          exact ⟨⟨_, _, rfl, ⟨_, rfl, k6⟩, k7⟩, k8⟩
        · refine append_bytes (E := 5) (B := g1.size) tsl29 Tryd.underlying29 tn5 tz5 tb5 ohJ (by omega) o4J.bs (by omega) ?_
          intro v' h' ho' hb' hbut
          obtain ⟨k1, k2, k3, k4, k5, k6, k7, k8⟩ := key v' h' ho' hb' hbut
          simp (config := {maxSteps := 2000000, implicitDefEqProofs := false}) only [go_sem, ↓reduceIte, Nat.reduceEqDiff, Nat.reduceAdd, Nat.reduceMul, Nat.reduceLeDiff, Nat.reduceLT, Nat.reduceSub, IntWalk.iteOmega, IntWalk.toNatUp, reduceCtorEq, false_and, and_false, false_or, or_false, true_or, or_true, not_true_eq_false, not_false_eq_true, Bool.not_true, Bool.not_false, Bool.and_true, Bool.true_and, Bool.and_false, Bool.false_and, Bool.not_eq_true, beq_self_eq_true, Nat.add_zero, Int.reduceLE, Int.reduceLT, Int.reduceToNat, Int.reduceNeg, k1, k2, k3, k4, k5, hD11', tkD']
          exact ⟨⟨_, _, rfl, ⟨_, rfl, k6⟩, k7⟩, k8⟩
  · rw [if_pos e0] at hse
    have e5 := (chanErr_five kl.length sent top s).resolve_left e0
    simp (config := {maxSteps := 2000000, implicitDefEqProofs := false}) only [go_sem, ↓reduceIte, Nat.reduceEqDiff, Nat.reduceAdd, Nat.reduceMul, Nat.reduceLeDiff, Nat.reduceLT, Nat.reduceSub, IntWalk.iteOmega, IntWalk.toNatUp, reduceCtorEq, false_and, and_false, false_or, or_false, true_or, or_true, not_true_eq_false, not_false_eq_true, Bool.not_true, Bool.not_false, Bool.and_true, Bool.true_and, Bool.and_false, Bool.false_and, Bool.not_eq_true, beq_self_eq_true, Nat.add_zero, Int.reduceLE, Int.reduceLT, Int.reduceToNat, Int.reduceNeg, e5, wz, z1]
    exact ⟨⟨_, _, by rw [hse]; rfl, ⟨_, rfl, OBs.nil _ _ _⟩, OBs.nil _ _ _⟩, hBz⟩
end Go.Proofs.YtnpacofabdgcdaaDoor
namespace Go.Proofs.YtnpacofabdgcdaaDoor
open Go Go.V
set_option linter.unusedSimpArgs false
set_option linter.unusedVariables false
set_option maxRecDepth 100000
theorem chan_again {sent top : Int} {s : List Bool} (hs : s.length = 8) (e : chanErr 32 sent top s = 0) : topOf (metN top s 8) = top ∧ seenOf (metN top s 8) top = s := by
  obtain ⟨_, h1, h2, h3, h4⟩ := chanErr_zero e
  rw [chan_law hs h1 h2 h3 h4] at e
  split at e
  · cases e
  · rename_i hn
    have t : topOf (metN top s 8) = top := Classical.byContradiction fun hne => hn (.inr (.inl hne))
    exact ⟨t, Classical.byContradiction fun hne => hn (.inr (.inr (by rw [t]; exact hne)))⟩
theorem met_range {top : Int} {s : List Bool} (h3 : 0 ≤ top) (h4 : top ≤ 1073741824) : ∀ x ∈ metN top s 8, -1099511627776 ≤ x ∧ x ≤ 1099511627776 ∧ x < topOf (metN top s 8) := by
  intro x hx
  have hb := metN_below top s x hx
  obtain ⟨i, hi, _, rfl⟩ := metN_mem.1 hx
  exact ⟨by omega, by omega, hb⟩
theorem zero8 : (#[Value.int .u8 0, .int .u8 0, .int .u8 0, .int .u8 0, .int .u8 0, .int .u8 0, .int .u8 0, .int .u8 0] : Array Value) = ((List.replicate 8 0).map bv).toArray := rfl
set_option maxHeartbeats 1000000 in
theorem sentOn_ok (T : World) (h : Hp) (k u : Value) (kl plain : List Nat) (sent top : Int) (s : List Bool) (hs : s.length = 8) (sk : Bs h k kl) (sp : Bs h u plain) (hk0 : kl.length ≤ 140737488355328) (hsent : -9223372036854775808 ≤ sent ∧ sent ≤ 9223372036854775807) :
    CallsH Tryd.prog T 111 #[.agg (chanC k sent top s).toArray, u] h fun v' h' => SendRes h.size h' v' kl sent top s plain ∧ Bel h.size h h' := by
  obtain ⟨p, c, rfl, _⟩ := sk.open
  obtain ⟨q, d, rfl, _⟩ := sp.open
  have hC11 := chanC_length (.slice p kl.length c) sent top s hs
  have tk := take_len hC11
  refine CallsH.of_code2 (args := [_, _]) Tryd.func111 rfl rfl rfl rfl ?_
  simp (config := {maxSteps := 2000000, implicitDefEqProofs := false}) only [go_sem, ↓reduceIte, Nat.reduceEqDiff, Nat.reduceAdd, Nat.reduceMul, Nat.reduceLeDiff, Nat.reduceLT, Nat.reduceSub, IntWalk.iteOmega, IntWalk.toNatUp, reduceCtorEq, false_and, and_false, false_or, or_false, true_or, or_true, not_true_eq_false, not_false_eq_true, Bool.not_true, Bool.not_false, Bool.and_true, Bool.true_and, Bool.and_false, Bool.false_and, Bool.not_eq_true, beq_self_eq_true, Nat.add_zero, Int.reduceLE, Int.reduceLT, Int.reduceToNat, Int.reduceNeg, hC11, tk]
  have hpush : Bel h.size h ((h.push (.cells (chanC (.slice p kl.length c) sent top s).toArray 143)).push (.cells chanZ.toArray 143)) := by (repeat' (first | exact Bel.refl _ _ | assumption | refine Bel.add ?_ _ | refine Bel.addSet ?_ (by first | omega | (simp; omega)) _ | refine Bel.trans (by assumption) ?_))
  refine (channelFault_ok T _ _ kl sent top s hs (sk.bel hpush) hk0 hsent).use ?_
  rintro _ g1 ⟨rfl, b1⟩
  have x0 : g1[h.size]? = some (.cells (chanC (.slice p kl.length c) sent top s).toArray 143) := b1.get (by simp only [Array.size_push]; omega) (by simp only [Array.getElem?_push, Array.size_push, IntWalk.iteOmega, ↓reduceIte])
  have x1 : g1[h.size + 1]? = some (.cells chanZ.toArray 143) := b1.get (by simp only [Array.size_push]; omega) (by simp only [Array.getElem?_push, Array.size_push, IntWalk.iteOmega, ↓reduceIte] <;> rfl)
  have hB1 : Bel h.size h g1 := hpush.trans (b1.mono (by simp; omega))
  have z1 := lt_of_get x1
  clear b1 hpush
  have hse : sendErr kl.length sent top s plain.length = if chanErr kl.length sent top s ≠ 0 then 5 else if 2000 < plain.length then 1 else if sent = 1073741824 then 8 else 0 := rfl
  unfold SendRes ChanW
  obtain ⟨E, hE⟩ : ∃ E, E = sendErr kl.length sent top s plain.length := ⟨_, rfl⟩
  rw [← hE] at hse ⊢
  have wz := wrZ x1 (w := [.slice none 0 0, .int .i64 0, .int .i64 0, .bool false, .bool false, .bool false, .bool false, .bool false, .bool false, .bool false, .bool false]) rfl rfl
  have hBz : Bel h.size h (g1.setIfInBounds (h.size + 1) (.cells #[.slice none 0 0, .int .i64 0, .int .i64 0, .bool false, .bool false, .bool false, .bool false, .bool false, .bool false, .bool false, .bool false] 143)) := hB1.addSet (by omega) _
  by_cases e0 : chanErr kl.length sent top s = 0
  · obtain ⟨hk, s0, s1, t0, t1⟩ := chanErr_zero e0
    rw [if_neg (by simp [e0])] at hse
    by_cases hm : 2000 < plain.length
    · rw [if_pos hm] at hse
      have hm' : 2000 < (plain.length : Int) := by omega
      simp (config := {maxSteps := 2000000, implicitDefEqProofs := false}) only [go_sem, ↓reduceIte, Nat.reduceEqDiff, Nat.reduceAdd, Nat.reduceMul, Nat.reduceLeDiff, Nat.reduceLT, Nat.reduceSub, IntWalk.iteOmega, IntWalk.toNatUp, reduceCtorEq, false_and, and_false, false_or, or_false, true_or, or_true, not_true_eq_false, not_false_eq_true, Bool.not_true, Bool.not_false, Bool.and_true, Bool.true_and, Bool.and_false, Bool.false_and, Bool.not_eq_true, beq_self_eq_true, Nat.add_zero, Int.reduceLE, Int.reduceLT, Int.reduceToNat, Int.reduceNeg, e0, hm', wz, z1]
      exact ⟨⟨_, _, by rw [hse]; rfl, ⟨_, rfl, OBs.nil _ _ _⟩, OBs.nil _ _ _⟩, hBz⟩
    · rw [if_neg hm] at hse
      have hm' : ¬ 2000 < (plain.length : Int) := by omega
      have y1 : V.hc g1 ⟨h.size, 1, none⟩ = some (.int .i64 sent) := by rw [hc_last x0]; rfl
      have y0 : V.hc g1 ⟨h.size, 0, none⟩ = some (.slice p kl.length c) := by rw [hc_last x0]; rfl
      by_cases hf : sent = 1073741824
      · rw [if_pos hf] at hse
        have hf' : (sent = 1073741824) = True := eq_true hf
        simp (config := {maxSteps := 2000000, implicitDefEqProofs := false}) only [go_sem, ↓reduceIte, Nat.reduceEqDiff, Nat.reduceAdd, Nat.reduceMul, Nat.reduceLeDiff, Nat.reduceLT, Nat.reduceSub, IntWalk.iteOmega, IntWalk.toNatUp, reduceCtorEq, false_and, and_false, false_or, or_false, true_or, or_true, not_true_eq_false, not_false_eq_true, Bool.not_true, Bool.not_false, Bool.and_true, Bool.true_and, Bool.and_false, Bool.false_and, Bool.not_eq_true, beq_self_eq_true, Nat.add_zero, Int.reduceLE, Int.reduceLT, Int.reduceToNat, Int.reduceNeg, e0, hm', y1, hf', wz, z1]
        exact ⟨⟨_, _, by rw [hse]; rfl, ⟨_, rfl, OBs.nil _ _ _⟩, OBs.nil _ _ _⟩, hBz⟩
      · rw [if_neg hf] at hse
        rw [hse]
        obtain ⟨n, rfl⟩ : ∃ n : Nat, sent = n := ⟨sent.toNat, by omega⟩
        rw [Int.toNat_natCast]
        simp (config := {maxSteps := 2000000, implicitDefEqProofs := false}) only [go_sem, ↓reduceIte, Nat.reduceEqDiff, Nat.reduceAdd, Nat.reduceMul, Nat.reduceLeDiff, Nat.reduceLT, Nat.reduceSub, IntWalk.iteOmega, IntWalk.toNatUp, reduceCtorEq, false_and, and_false, false_or, or_false, true_or, or_true, not_true_eq_false, not_false_eq_true, Bool.not_true, Bool.not_false, Bool.and_true, Bool.true_and, Bool.and_false, Bool.false_and, Bool.not_eq_true, beq_self_eq_true, Nat.add_zero, Int.reduceLE, Int.reduceLT, Int.reduceToNat, Int.reduceNeg, e0, hm', y1, hf]
        refine (lineHead_ok T _ n (by omega)).use ?_
        rintro vh g2 ⟨oh, b2⟩
        have z2 := b2.size
        have x0' := b2.get (by omega) x0
        have x1' := b2.get (by omega) x1
        have hB2 := hB1.trans (b2.mono hB1.size)
        have o8 : OBs g2.size 5 (g2.push (.cells ((List.replicate 8 0).map bv).toArray 5)) (.slice (some ⟨g2.size, 0, none⟩) 8 8) (List.replicate 8 0) := OBs.made (l := List.replicate 8 0) (fun x hx => by rw [List.eq_of_mem_replicate hx]; decide) (Nat.le_refl _)
        have zp : (g2.push (.cells ((List.replicate 8 0).map bv).toArray 5)).size = g2.size + 1 := by simp
        have bp : Bel g2.size g2 (g2.push (.cells ((List.replicate 8 0).map bv).toArray 5)) := Bel.push (Nat.le_refl _) _
        simp (config := {maxSteps := 2000000, implicitDefEqProofs := false}) only [go_sem, ↓reduceIte, Nat.reduceEqDiff, Nat.reduceAdd, Nat.reduceMul, Nat.reduceLeDiff, Nat.reduceLT, Nat.reduceSub, IntWalk.iteOmega, IntWalk.toNatUp, reduceCtorEq, false_and, and_false, false_or, or_false, true_or, or_true, not_true_eq_false, not_false_eq_true, Bool.not_true, Bool.not_false, Bool.and_true, Bool.true_and, Bool.and_false, Bool.false_and, Bool.not_eq_true, beq_self_eq_true, Nat.add_zero, Int.reduceLE, Int.reduceLT, Int.reduceToNat, Int.reduceNeg, zero8]
        refine (joined_ok T _ _ _ (List.replicate 8 0) (head4 n) o8.bs (oh.bs.bel bp) (by simp [head4])).use ?_
        rintro vn g3 ⟨on, b3⟩
        have on : OBs (g2.size + 1) 5 g3 vn (nonceS (head4 n)) := by rw [← zp]; exact on
        have b23 : Bel g2.size g2 g3 := bp.trans (b3.mono (by omega))
        have z3 := b23.size
        have y0'' : V.hc g3 ⟨h.size, 0, none⟩ = some (.slice p kl.length c) := by rw [hc_last (b23.get (by omega) x0')]; rfl
        simp (config := {maxSteps := 2000000, implicitDefEqProofs := false}) only [go_sem, ↓reduceIte, Nat.reduceEqDiff, Nat.reduceAdd, Nat.reduceMul, Nat.reduceLeDiff, Nat.reduceLT, Nat.reduceSub, IntWalk.iteOmega, IntWalk.toNatUp, reduceCtorEq, false_and, and_false, false_or, or_false, true_or, or_true, not_true_eq_false, not_false_eq_true, Bool.not_true, Bool.not_false, Bool.and_true, Bool.true_and, Bool.and_false, Bool.false_and, Bool.not_eq_true, beq_self_eq_true, Nat.add_zero, Int.reduceLE, Int.reduceLT, Int.reduceToNat, Int.reduceNeg, y0'']
        refine (sealed_ok T _ _ _ _ _ kl (nonceS (head4 n)) (head4 n) plain ((sk.bel hB2).bel b23) on.bs (oh.bs.bel b23) ((sp.bel hB2).bel b23)).use ?_
        rintro _ g4 ⟨⟨w4, rfl, o4⟩, b4⟩
        have z4 := b4.size
        have eS : sealErr kl.length (nonceS (head4 n)).length (head4 n).length plain.length 2000 = 0 := by
          unfold sealErr nonceS head4; rw [if_neg]; simp; omega
        rw [eS, if_pos rfl] at o4
        rw [eS]
        have b34 : Bel g2.size g2 g4 := b23.trans (b4.mono z3)
        have x0'' := b34.get (by omega) x0'
        have x1'' := b34.get (by omega) x1'
        have hB4 := hB2.trans (b34.mono hB2.size)
        have rC : rd g4 ⟨h.size, 0, none⟩ 11 = some (chanC (.slice p kl.length c) n top s) := rd_last x0'' hC11
        simp (config := {maxSteps := 2000000, implicitDefEqProofs := false}) only [go_sem, ↓reduceIte, Nat.reduceEqDiff, Nat.reduceAdd, Nat.reduceMul, Nat.reduceLeDiff, Nat.reduceLT, Nat.reduceSub, IntWalk.iteOmega, IntWalk.toNatUp, reduceCtorEq, false_and, and_false, false_or, or_false, true_or, or_true, not_true_eq_false, not_false_eq_true, Bool.not_true, Bool.not_false, Bool.and_true, Bool.true_and, Bool.and_false, Bool.false_and, Bool.not_eq_true, beq_self_eq_true, Nat.add_zero, Int.reduceLE, Int.reduceLT, Int.reduceToNat, Int.reduceNeg, rC]
        refine (metNumbers_ok T _ _ n top s hs (by omega) (by omega)).use ?_
        rintro vm g5 ⟨om, b5⟩
        have z5 := b5.size
        have x0c := b5.get (by omega) x0''
        have x1c := b5.get (by omega) x1''
        have hB5 := hB4.trans (b5.mono hB4.size)
        have e1 : (n : Int) + 1 = ((n + 1 : Nat) : Int) := rfl
        have yk : V.hc g5 ⟨h.size, 0, none⟩ = some (.slice p kl.length c) := by rw [hc_last x0c]; rfl
        have yn : V.hc g5 ⟨h.size, 1, none⟩ = some (.int .i64 n) := by rw [hc_last x0c]; rfl
        rw [hk] at e0
        obtain ⟨ta, sa⟩ := chan_again hs e0
        have lmet := metN_length top s 8
        simp (config := {maxSteps := 2000000, implicitDefEqProofs := false}) only [go_sem, ↓reduceIte, Nat.reduceEqDiff, Nat.reduceAdd, Nat.reduceMul, Nat.reduceLeDiff, Nat.reduceLT, Nat.reduceSub, IntWalk.iteOmega, IntWalk.toNatUp, reduceCtorEq, false_and, and_false, false_or, or_false, true_or, or_true, not_true_eq_false, not_false_eq_true, Bool.not_true, Bool.not_false, Bool.and_true, Bool.true_and, Bool.and_false, Bool.false_and, Bool.not_eq_true, beq_self_eq_true, Nat.add_zero, Int.reduceLE, Int.reduceLT, Int.reduceToNat, Int.reduceNeg, yk, yn, e1]
        refine (channelOf_ok T _ _ _ kl ((n + 1 : Nat) : Int) (metN top s 8) (sk.bel hB5) (by omega) om.ts (by omega) (met_range t0 t1)).use ?_
        rintro _ g6 ⟨⟨w6, rfl, o6⟩, b6⟩
        rw [ta, sa]
        have z6 := b6.size
        have x1d := b6.get (by omega) x1c
        have hB6 := hB5.trans (b6.mono hB5.size)
        have lS : (sealS kl (nonceS (head4 n)) (head4 n) plain).length ≤ 2016 := by
          have l1 := mixB_length kl 1 (nonceS (head4 n)) plain
          have l2 : (sealTagS kl (nonceS (head4 n)) (head4 n) (mixB kl 1 (nonceS (head4 n)) plain)).length ≤ 16 := tagL_le _ _
          unfold sealS; rw [List.length_append]; omega
        have lh : (head4 n).length = 4 := rfl
        simp (config := {maxSteps := 2000000, implicitDefEqProofs := false}) only [go_sem, ↓reduceIte, Nat.reduceEqDiff, Nat.reduceAdd, Nat.reduceMul, Nat.reduceLeDiff, Nat.reduceLT, Nat.reduceSub, IntWalk.iteOmega, IntWalk.toNatUp, reduceCtorEq, false_and, and_false, false_or, or_false, true_or, or_true, not_true_eq_false, not_false_eq_true, Bool.not_true, Bool.not_false, Bool.and_true, Bool.true_and, Bool.and_false, Bool.false_and, Bool.not_eq_true, beq_self_eq_true, Nat.add_zero, Int.reduceLE, Int.reduceLT, Int.reduceToNat, Int.reduceNeg]
        refine (joined_ok T _ _ _ (head4 n) (sealS kl (nonceS (head4 n)) (head4 n) plain) (((oh.bs.bel b34).bel b5).bel b6) ((o4.bs.bel b5).bel b6) (by omega)).use ?_
        rintro v7 g7 ⟨o7, b7⟩
        have z7 := b7.size
        obtain ⟨pw, cw, rfl, _⟩ := o6.open
        have hD11' := chanC_length (.slice pw kl.length cw) ((n + 1 : Nat) : Int) top s hs
        have tkD' := take_len hD11'
        have oD' := chanC_one (p := pw) (n := kl.length) (c := cw) ((n + 1 : Nat) : Int) top s
        have x1e := b7.get (by omega) x1d
        have k2 := wrZ x1e hD11' oD'
        have k5 := lt_of_get x1e
        have o6' := o6.bel b7 (Nat.le_refl _)
        simp (config := {maxSteps := 2000000, implicitDefEqProofs := false}) only [go_sem, ↓reduceIte, Nat.reduceEqDiff, Nat.reduceAdd, Nat.reduceMul, Nat.reduceLeDiff, Nat.reduceLT, Nat.reduceSub, IntWalk.iteOmega, IntWalk.toNatUp, reduceCtorEq, false_and, and_false, false_or, or_false, true_or, or_true, not_true_eq_false, not_false_eq_true, Bool.not_true, Bool.not_false, Bool.and_true, Bool.true_and, Bool.and_false, Bool.false_and, Bool.not_eq_true, beq_self_eq_true, Nat.add_zero, Int.reduceLE, Int.reduceLT, Int.reduceToNat, Int.reduceNeg, k2, k5, hD11', tkD']
        exact ⟨⟨_, _, rfl, ⟨_, rfl, (o6'.setLow (by omega) _).mono (by omega)⟩, (o7.setLow (by omega) _).mono (by omega)⟩, (hB6.trans (b7.mono hB6.size)).addSet (by omega) _⟩
  · rw [if_pos e0] at hse
    have e5 := (chanErr_five kl.length sent top s).resolve_left e0
    simp (config := {maxSteps := 2000000, implicitDefEqProofs := false}) only [go_sem, ↓reduceIte, Nat.reduceEqDiff, Nat.reduceAdd, Nat.reduceMul, Nat.reduceLeDiff, Nat.reduceLT, Nat.reduceSub, IntWalk.iteOmega, IntWalk.toNatUp, reduceCtorEq, false_and, and_false, false_or, or_false, true_or, or_true, not_true_eq_false, not_false_eq_true, Bool.not_true, Bool.not_false, Bool.and_true, Bool.true_and, Bool.and_false, Bool.false_and, Bool.not_eq_true, beq_self_eq_true, Nat.add_zero, Int.reduceLE, Int.reduceLT, Int.reduceToNat, Int.reduceNeg, e5, wz, z1]
    exact ⟨⟨_, _, by rw [hse]; rfl, ⟨_, rfl, OBs.nil _ _ _⟩, OBs.nil _ _ _⟩, hBz⟩
end Go.Proofs.YtnpacofabdgcdaaDoor
