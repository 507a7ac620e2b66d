/- OrderDecodes holds: order.Decode answers what the document says, at every argument; without any condition. -/
import Derived.Test.YtnpacofabdgcdaaDoorEnc
import Derived.Test.YtnpacofabdgcdaaDoorW8
namespace Go.Proofs.YtnpacofabdgcdaaDoor
open Go Go.V
set_option linter.unusedSimpArgs false
set_option linter.unusedVariables false
set_option maxRecDepth 100000
/-- A number of four bytes, the highest one first. -/
def be4 (l : List Nat) (i : Nat) : Nat := l.getD i 0 * 16777216 + l.getD (i + 1) 0 * 65536 + l.getD (i + 2) 0 * 256 + l.getD (i + 3) 0
theorem or4_i64 {a b c d : Nat} (ha : a < 256) (hb : b < 256) (hc : c < 256) (hd : d < 256) :
    bitOp .or .i64 (bitOp .or .i64 (bitOp .or .i64 (shlOp .i64 a 24) (shlOp .i64 b 16)) (shlOp .i64 c 8)) d = ((a * 16777216 + b * 65536 + c * 256 + d : Nat) : Int) := by
  have e1 : shlOp .i64 (a : Int) 24 = ((a * 16777216 : Nat) : Int) := shl_byte ha 24 (by omega)
  have e2 : shlOp .i64 (b : Int) 16 = ((b * 65536 : Nat) : Int) := shl_byte hb 16 (by omega)
  have e3 : shlOp .i64 (c : Int) 8 = ((c * 256 : Nat) : Int) := shl_byte hc 8 (by omega)
  have f1 : a * 16777216 ||| b * 65536 = a * 16777216 + b * 65536 := or_add (k := 24) (by omega) (by omega)
  have f2 : (a * 16777216 + b * 65536) ||| c * 256 = a * 16777216 + b * 65536 + c * 256 := or_add (k := 16) (by omega) (by omega)
  rw [e1, e2, e3, or_i64 _ _ (by omega) (by omega), f1, or_i64 _ _ (by omega) (by omega), f2, or_i64 _ _ (by omega) (by omega), or_add (k := 8) (by omega) (by omega)]
theorem fourHigh_ok (T : World) (h : Hp) (v : Value) (l : List Nat) (s : Bs h v l) (i : Nat) (hi : i + 4 ≤ l.length) (hl : l.length ≤ 140737488355328) :
    CallsH Tryd.prog T 81 #[v, .int .i64 i] h fun v' h' => v' = .int .i64 (be4 l i : Nat) ∧ h' = h := by
  obtain ⟨p, c, rfl, hc1⟩ := s.opend
  obtain ⟨b, o, rfl, hb, hcs⟩ := hc1 (by intro e; subst e; simp at hi)
  refine CallsH.of_code' (args := [_, _]) Tryd.func81 rfl rfl rfl rfl ?_
  have e0 := hcs i (by omega)
  have e1 := hcs (i + 1) (by omega)
  have e2 := hcs (i + 2) (by omega)
  have e3 := hcs (i + 3) (by omega)
  have b0 := getD_byte s.byte i
  have b1 := getD_byte s.byte (i + 1)
  have b2 := getD_byte s.byte (i + 2)
  have b3 := getD_byte s.byte (i + 3)
  have t1 : ((i : Int) + 1).toNat = i + 1 := by omega
  have t2 : ((i : Int) + 2).toNat = i + 2 := by omega
  have t3 : ((i : Int) + 3).toNat = i + 3 := by omega
  simp (config := {contextual := true, maxSteps := 2000000, implicitDefEqProofs := false}) only [go_sem, ↓reduceIte, Nat.reduceEqDiff, Nat.reduceAdd, Nat.reduceMul, Nat.reduceLeDiff, Nat.reduceLT, Nat.reduceSub, IntWalk.iteOmega, IntWalk.toNatUp, reduceCtorEq, Int.reduceLE, Int.reduceLT, Int.reduceToNat, Int.reduceNeg]
  refine VS.q mixed (by kernel_rfl) ?_
  simp (config := {contextual := true, maxSteps := 2000000, implicitDefEqProofs := false}) only [go_sem, ↓reduceIte, Nat.reduceEqDiff, Nat.reduceAdd, Nat.reduceMul, Nat.reduceLeDiff, Nat.reduceLT, Nat.reduceSub, IntWalk.iteOmega, IntWalk.toNatUp, reduceCtorEq, Int.reduceLE, Int.reduceLT, Int.reduceToNat, Int.reduceNeg, e0, e1, e2, e3, t1, t2, t3]
  simp only [be4]
  congr 1; omega
def cmdZ : List Value := cmdC 0 0 0 0 0
def decErr (l : List Nat) : Int := if l.length = 20 then cmdErr (be4 l 0) (be4 l 4) (be4 l 8) (be4 l 12) (be4 l 16) else 1
def decC (l : List Nat) : List Value := if decErr l = 0 then cmdC (be4 l 0) (be4 l 4) (be4 l 8) (be4 l 12) (be4 l 16) else cmdZ
theorem commandOf_ok (T : World) (h : Hp) (v : Value) (l : List Nat) (s : Bs h v l) (hl : l.length ≤ 140737488355328) :
    CallsH Tryd.prog T 115 #[v] h fun v' h' => v' = .tuple [.agg (decC l).toArray, .int .i64 (decErr l)].toArray ∧ Bel h.size h h' := by
  obtain ⟨p, c, rfl, hc1⟩ := s.opend
  refine CallsH.of_code' (args := [_]) Tryd.func115 rfl rfl rfl rfl ?_
  by_cases h20 : l.length = 20
  · have h20' : (l.length : Int) = 20 := by omega
    simp (config := {contextual := true, maxSteps := 2000000, implicitDefEqProofs := false}) only [go_sem, ↓reduceIte, Nat.reduceEqDiff, Nat.reduceAdd, Nat.reduceMul, Nat.reduceLeDiff, Nat.reduceLT, Nat.reduceSub, IntWalk.iteOmega, IntWalk.toNatUp, reduceCtorEq, Int.reduceLE, Int.reduceLT, Int.reduceToNat, Int.reduceNeg, h20', h20]
    refine (fourHigh_ok T _ _ l ?_ 0 (by omega) hl).pure ?_
    · rw [← h20]; exact s.bel (Bel.push (Nat.le_refl _) _)
    simp (config := {contextual := true, maxSteps := 2000000, implicitDefEqProofs := false}) only [go_sem, ↓reduceIte, Nat.reduceEqDiff, Nat.reduceAdd, Nat.reduceMul, Nat.reduceLeDiff, Nat.reduceLT, Nat.reduceSub, IntWalk.iteOmega, IntWalk.toNatUp, reduceCtorEq, Int.reduceLE, Int.reduceLT, Int.reduceToNat, Int.reduceNeg, h20', h20]
    refine (fourHigh_ok T _ _ l ?_ 4 (by omega) hl).pure ?_
    · rw [← h20]; exact s.bel (Bel.push (Nat.le_refl _) _)
    simp (config := {contextual := true, maxSteps := 2000000, implicitDefEqProofs := false}) only [go_sem, ↓reduceIte, Nat.reduceEqDiff, Nat.reduceAdd, Nat.reduceMul, Nat.reduceLeDiff, Nat.reduceLT, Nat.reduceSub, IntWalk.iteOmega, IntWalk.toNatUp, reduceCtorEq, Int.reduceLE, Int.reduceLT, Int.reduceToNat, Int.reduceNeg, h20', h20]
    refine (fourHigh_ok T _ _ l ?_ 8 (by omega) hl).pure ?_
    · rw [← h20]; exact s.bel (Bel.push (Nat.le_refl _) _)
    simp (config := {contextual := true, maxSteps := 2000000, implicitDefEqProofs := false}) only [go_sem, ↓reduceIte, Nat.reduceEqDiff, Nat.reduceAdd, Nat.reduceMul, Nat.reduceLeDiff, Nat.reduceLT, Nat.reduceSub, IntWalk.iteOmega, IntWalk.toNatUp, reduceCtorEq, Int.reduceLE, Int.reduceLT, Int.reduceToNat, Int.reduceNeg, h20', h20]
    refine (fourHigh_ok T _ _ l ?_ 12 (by omega) hl).pure ?_
    · rw [← h20]; exact s.bel (Bel.push (Nat.le_refl _) _)
    simp (config := {contextual := true, maxSteps := 2000000, implicitDefEqProofs := false}) only [go_sem, ↓reduceIte, Nat.reduceEqDiff, Nat.reduceAdd, Nat.reduceMul, Nat.reduceLeDiff, Nat.reduceLT, Nat.reduceSub, IntWalk.iteOmega, IntWalk.toNatUp, reduceCtorEq, Int.reduceLE, Int.reduceLT, Int.reduceToNat, Int.reduceNeg, h20', h20]
    refine (fourHigh_ok T _ _ l ?_ 16 (by omega) hl).pure ?_
    · rw [← h20]; exact s.bel (Bel.push (Nat.le_refl _) _)
    simp (config := {contextual := true, maxSteps := 2000000, implicitDefEqProofs := false}) only [go_sem, ↓reduceIte, Nat.reduceEqDiff, Nat.reduceAdd, Nat.reduceMul, Nat.reduceLeDiff, Nat.reduceLT, Nat.reduceSub, IntWalk.iteOmega, IntWalk.toNatUp, reduceCtorEq, Int.reduceLE, Int.reduceLT, Int.reduceToNat, Int.reduceNeg, h20', h20]
    refine (commandFault_ok T _ _ _ _ _ _).use ?_
    rintro v1 h1 ⟨rfl, rfl⟩
    by_cases q : cmdErr (be4 l 0) (be4 l 4) (be4 l 8) (be4 l 12) (be4 l 16) = 0
    · unfold decC decErr cmdC
      rw [if_pos h20, if_pos q]
      simp (config := {contextual := true, maxSteps := 2000000, implicitDefEqProofs := false}) only [go_sem, ↓reduceIte, Nat.reduceEqDiff, Nat.reduceAdd, Nat.reduceMul, Nat.reduceLeDiff, Nat.reduceLT, Nat.reduceSub, IntWalk.iteOmega, IntWalk.toNatUp, reduceCtorEq, Int.reduceLE, Int.reduceLT, Int.reduceToNat, Int.reduceNeg, q]
      (repeat' (first | exact Bel.refl _ _ | assumption | refine Bel.add ?_ _ | refine Bel.addSet ?_ (by first | omega | (simp; omega)) _ | refine Bel.trans (by assumption) ?_))
    · unfold decC decErr cmdZ cmdC
      rw [if_pos h20, if_neg q]
      simp (config := {contextual := true, maxSteps := 2000000, implicitDefEqProofs := false}) only [go_sem, ↓reduceIte, Nat.reduceEqDiff, Nat.reduceAdd, Nat.reduceMul, Nat.reduceLeDiff, Nat.reduceLT, Nat.reduceSub, IntWalk.iteOmega, IntWalk.toNatUp, reduceCtorEq, Int.reduceLE, Int.reduceLT, Int.reduceToNat, Int.reduceNeg, q]
      (repeat' (first | exact Bel.refl _ _ | assumption | refine Bel.add ?_ _ | refine Bel.addSet ?_ (by first | omega | (simp; omega)) _ | refine Bel.trans (by assumption) ?_))
  · have h20' : ¬ (l.length : Int) = 20 := by omega
    unfold decC decErr cmdZ cmdC
    simp (config := {contextual := true, maxSteps := 2000000, implicitDefEqProofs := false}) only [go_sem, ↓reduceIte, Nat.reduceEqDiff, Nat.reduceAdd, Nat.reduceMul, Nat.reduceLeDiff, Nat.reduceLT, Nat.reduceSub, IntWalk.iteOmega, IntWalk.toNatUp, reduceCtorEq, Int.reduceLE, Int.reduceLT, Int.reduceToNat, Int.reduceNeg, h20', h20]
    (repeat' (first | exact Bel.refl _ _ | assumption | refine Bel.add ?_ _ | refine Bel.addSet ?_ (by first | omega | (simp; omega)) _ | refine Bel.trans (by assumption) ?_))
theorem decode_ok (T : World) (h : Hp) (v : Value) (l : List Nat) (s : Bs h v l) (hl : l.length ≤ 140737488355328) :
    CallsH Tryd.prog T 113 #[v] h fun v' h' => v' = .tuple [.agg (decC l).toArray, .int .i64 (decErr l)].toArray ∧ Bel h.size h h' := by
  obtain ⟨p, c, rfl, hc1⟩ := s.opend
  refine CallsH.of_code' (args := [_]) Tryd.func113 rfl rfl rfl rfl ?_
  by_cases h20 : l.length = 20
  · have h20' : (l.length : Int) = 20 := by omega
    obtain ⟨b, o, rfl, hb, hcs⟩ := hc1 (by intro e; subst e; simp at h20)
    simp (config := {contextual := true, maxSteps := 2000000, implicitDefEqProofs := false}) only [go_sem, ↓reduceIte, Nat.reduceEqDiff, Nat.reduceAdd, Nat.reduceMul, Nat.reduceLeDiff, Nat.reduceLT, Nat.reduceSub, IntWalk.iteOmega, IntWalk.toNatUp, reduceCtorEq, Int.reduceLE, Int.reduceLT, Int.reduceToNat, Int.reduceNeg, h20', h20]
    refine (numbers_ok T _ (h.size + 1)).use ?_
    rintro v1 h1 ⟨rfl, b1⟩
    have b1' : Bel (h.size + 2) _ h1 := b1.mono (by simp)
    have z1 : h.size + 2 ≤ h1.size := by have := b1.size; simp at this; omega
    have x0 : h1[h.size]? = some (.cells cmdZ.toArray 25) := b1'.get (by omega) (by rw [get_push_ne (by simp), get_push_last]; rfl)
    have x1 : h1[h.size + 1]? = some (.cells cmdZ.toArray 25) := b1'.get (by omega) (by have := get_push_last (h := h.push (.cells cmdZ.toArray 25)) (o := .cells cmdZ.toArray 25); rw [Array.size_push] at this; exact this)
    have hbel1 : Bel h.size h h1 := (((Bel.refl h.size h).add _).add _).trans (b1.mono (by simp; omega))
    clear b1 b1'
    obtain ⟨xs, hxs⟩ : ∃ xs : List Value, xs = cmdC (be4 l 0) (be4 l 4) (be4 l 8) (be4 l 12) (be4 l 16) := ⟨_, rfl⟩
    have hx5 : xs.length = 5 := by rw [hxs]; rfl
    have hxi : ∀ i (hi : i < 5), xs[i]'(by omega) = .int .i64 (be4 l (4 * i) : Nat) := by
      intro i hi
      subst hxs
      rcases i with _ | _ | _ | _ | _ | i <;> first | rfl | omega
    simp (config := {contextual := true, maxSteps := 2000000, implicitDefEqProofs := false}) only [go_sem, ↓reduceIte, Nat.reduceEqDiff, Nat.reduceAdd, Nat.reduceMul, Nat.reduceLeDiff, Nat.reduceLT, Nat.reduceSub, IntWalk.iteOmega, IntWalk.toNatUp, reduceCtorEq, Int.reduceLE, Int.reduceLT, Int.reduceToNat, Int.reduceNeg]
    refine VS.loop' (fun F g => Bel (h.size + 1) h1 g ∧ F 0 = .slice (some ⟨b, o, none⟩) 20 c ∧ F 2 = .pointer (some ⟨h.size, 0, none⟩) ∧ F 4 = .pointer (some ⟨h.size + 1, 0, none⟩) ∧ F 12 = .agg (ptrs (h.size + 1)).toArray ∧ ∃ i : Nat, i ≤ 5 ∧ F 13 = .int .i64 i ∧ g[h.size + 1]? = some (.cells (xs.take i ++ cmdZ.drop i).toArray 25))
      (fun F _ => 5 - (vi (F 13)).toNat) rfl ⟨Bel.refl _ _, rfl, rfl, rfl, rfl, 0, by omega, rfl, by rw [fill_none]; exact x1⟩ ?_
    rintro F g ⟨hb', f0, f2, f4, f12, i, hi, f13, hg⟩
    by_cases hlt : i < 5
    · have hlt' : (i : Int) < 5 := by omega
      have p1 := ptrs_nth (h.size + 1) i hlt
      simp (config := {contextual := true, maxSteps := 2000000, implicitDefEqProofs := false}) only [go_sem, ↓reduceIte, Nat.reduceEqDiff, Nat.reduceAdd, Nat.reduceMul, Nat.reduceLeDiff, Nat.reduceLT, Nat.reduceSub, IntWalk.iteOmega, IntWalk.toNatUp, reduceCtorEq, Int.reduceLE, Int.reduceLT, Int.reduceToNat, Int.reduceNeg, f0, f4, f12, f13, hlt', p1]
      refine VS.b (h.size + 1) [(0, true), (1, true), (2, true), (3, true), (4, true), (5, true), (6, true), (7, true), (8, true), (9, true), (10, true), (11, true), (12, true), (13, true), (14, true), (15, true), (16, true), (17, true), (18, true), (19, true), (20, true), (21, true), (22, true), (23, true), (24, true), (25, true), (26, true), (27, true), (28, true), (29, true), (30, true), (31, true), (32, true), (33, true), (34, true), (35, false)] mixed (by kernel_rfl) ?_
      have g0 : ∀ i, i < 20 → hc g ⟨b, o + i, none⟩ = some (.int .u8 (l.getD i 0 : Nat)) := fun i hi => by rw [hb'.hc (by show b < h.size + 1; omega), hbel1.hc (by exact hb)]; exact hcs i (by omega)
      have e0 := g0 (4 * i) (by omega)
      have e1 := g0 (4 * i + 1) (by omega)
      have e2 := g0 (4 * i + 2) (by omega)
      have e3 := g0 (4 * i + 3) (by omega)
      have b0 := getD_byte s.byte (4 * i)
      have b1 := getD_byte s.byte (4 * i + 1)
      have b2 := getD_byte s.byte (4 * i + 2)
      have b3 := getD_byte s.byte (4 * i + 3)
      have t0 : (4 * (i : Int)).toNat = 4 * i := by omega
      have t1 : (4 * (i : Int) + 1).toNat = 4 * i + 1 := by omega
      have t2 : (4 * (i : Int) + 2).toNat = 4 * i + 2 := by omega
      have t3 : (4 * (i : Int) + 3).toNat = 4 * i + 3 := by omega
      have r1 : i + 1 < 6 := by omega
      have hlen : (xs.take i ++ cmdZ.drop i).length = 5 := by rw [fill_length _ _ _ (by omega) (by rw [hx5]; rfl), hx5]
      have eo := or4_i64 b0 b1 b2 b3
      rw [show l.getD (4 * i) 0 * 16777216 + l.getD (4 * i + 1) 0 * 65536 + l.getD (4 * i + 2) 0 * 256 + l.getD (4 * i + 3) 0 = be4 l (4 * i) from rfl] at eo
      simp (config := {contextual := true, maxSteps := 2000000, implicitDefEqProofs := false}) only [go_sem, ↓reduceIte, Nat.reduceEqDiff, Nat.reduceAdd, Nat.reduceMul, Nat.reduceLeDiff, Nat.reduceLT, Nat.reduceSub, IntWalk.iteOmega, IntWalk.toNatUp, reduceCtorEq, Int.reduceLE, Int.reduceLT, Int.reduceToNat, Int.reduceNeg, f0, f4, e0, e1, e2, e3, t0, t1, t2, t3, eo]
      rw [wr1_get hg, if_pos ⟨by omega, rfl⟩]
      simp (config := {contextual := true, maxSteps := 2000000, implicitDefEqProofs := false}) only [go_sem, ↓reduceIte, Nat.reduceEqDiff, Nat.reduceAdd, Nat.reduceMul, Nat.reduceLeDiff, Nat.reduceLT, Nat.reduceSub, IntWalk.iteOmega, IntWalk.toNatUp, reduceCtorEq, Int.reduceLE, Int.reduceLT, Int.reduceToNat, Int.reduceNeg, f13]
      refine ⟨(Bel.refl _ _).addSet (by omega) _, ⟨hb'.addSet (by omega) _, f0, f2, f4, f12, i + 1, hlt, rfl, ?_⟩, ?_⟩
      · rw [← hxi i hlt, fill_step _ _ _ (by omega) (by rw [hx5]; rfl), Array.getElem?_setIfInBounds, if_pos rfl, if_pos (lt_of_get hg)]
      · simp only [vi, updo_some, ↓reduceIte, f13]; omega
    · have hge : ¬ (i : Int) < 5 := by omega
      obtain rfl : i = 5 := by omega
      rw [← hx5, fill_done _ _ (by rw [hx5]; rfl)] at hg
      have hx1 : rd g ⟨h.size + 1, 0, none⟩ 5 = some (cmdC (be4 l 0) (be4 l 4) (be4 l 8) (be4 l 12) (be4 l 16)) := by rw [← hxs]; exact rd_last hg hx5
      simp (config := {contextual := true, maxSteps := 2000000, implicitDefEqProofs := false}) only [go_sem, ↓reduceIte, Nat.reduceEqDiff, Nat.reduceAdd, Nat.reduceMul, Nat.reduceLeDiff, Nat.reduceLT, Nat.reduceSub, IntWalk.iteOmega, IntWalk.toNatUp, reduceCtorEq, Int.reduceLE, Int.reduceLT, Int.reduceToNat, Int.reduceNeg, f2, f4, f12, f13, hge, hx1]
      refine (orderCheck_ok T _ _ _ _ _ _).use ?_
      rintro v1 h2 ⟨rfl, rfl⟩
      have y0 : g[h.size]? = some (.cells cmdZ.toArray 25) := hb'.get (by omega) x0
      have y1 : rd g ⟨h.size, 0, none⟩ 5 = some cmdZ := rd_last y0 rfl
      unfold decC decErr
      rw [if_pos h20]
      have zg : h.size + 2 ≤ g.size := Nat.le_trans z1 hb'.size
      have hB := hbel1.trans (hb'.mono (by omega))
      have y2 := wr_get y0 0
      unfold cmdZ cmdC at *
      by_cases q : cmdErr (be4 l 0) (be4 l 4) (be4 l 8) (be4 l 12) (be4 l 16) = 0
      · rw [if_pos q]
        simp (config := {contextual := true, maxSteps := 2000000, implicitDefEqProofs := false}) only [go_sem, ↓reduceIte, Nat.reduceEqDiff, Nat.reduceAdd, Nat.reduceMul, Nat.reduceLeDiff, Nat.reduceLT, Nat.reduceSub, IntWalk.iteOmega, IntWalk.toNatUp, reduceCtorEq, Int.reduceLE, Int.reduceLT, Int.reduceToNat, Int.reduceNeg, q, f2, f4, hx1, y1, y2]
        exact (hB.addSet (Nat.le_refl _) _).addP (by simp; omega) _
      · simp only [if_neg q]
        simp (config := {contextual := true, maxSteps := 2000000, implicitDefEqProofs := false}) only [go_sem, ↓reduceIte, Nat.reduceEqDiff, Nat.reduceAdd, Nat.reduceMul, Nat.reduceLeDiff, Nat.reduceLT, Nat.reduceSub, IntWalk.iteOmega, IntWalk.toNatUp, reduceCtorEq, Int.reduceLE, Int.reduceLT, Int.reduceToNat, Int.reduceNeg, q, f2, f4, hx1, y1, y2]
        exact (hB.addSet (Nat.le_refl _) _).addP (by simp; omega) _
  · have h20' : ¬ (l.length : Int) = 20 := by omega
    unfold decC decErr cmdZ cmdC
    simp (config := {contextual := true, maxSteps := 2000000, implicitDefEqProofs := false}) only [go_sem, ↓reduceIte, Nat.reduceEqDiff, Nat.reduceAdd, Nat.reduceMul, Nat.reduceLeDiff, Nat.reduceLT, Nat.reduceSub, IntWalk.iteOmega, IntWalk.toNatUp, reduceCtorEq, Int.reduceLE, Int.reduceLT, Int.reduceToNat, Int.reduceNeg, h20', h20]
    (repeat' (first | exact Bel.refl _ _ | assumption | refine Bel.add ?_ _ | refine Bel.addSet ?_ (by first | omega | (simp; omega)) _ | refine Bel.trans (by assumption) ?_))
end Go.Proofs.YtnpacofabdgcdaaDoor
