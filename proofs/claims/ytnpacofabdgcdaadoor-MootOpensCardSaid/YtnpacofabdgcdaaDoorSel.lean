/- What is sealed and opened, on both sides; no condition but those in the statements. -/
import Derived.Test.YtnpacofabdgcdaaDoorSea
import Derived.Test.YtnpacofabdgcdaaDoorSame
namespace Go.Proofs.YtnpacofabdgcdaaDoor
open Go Go.V
set_option linter.unusedSimpArgs false
set_option linter.unusedVariables false
set_option maxRecDepth 100000
def sealErr (k n w m most : Nat) : Int := if k ≠ 32 ∨ n ≠ 12 ∨ 256 < w ∨ most < m then 1 else 0
theorem sealErr_zero {k n w m most : Nat} (e : sealErr k n w m most = 0) : k = 32 ∧ n = 12 ∧ w ≤ 256 ∧ m ≤ most := by
  unfold sealErr at e
  split at e
  · cases e
  · omega
theorem sealErr_one {k n w m most : Nat} (e : ¬ sealErr k n w m most = 0) : sealErr k n w m most = 1 := by
  unfold sealErr at e ⊢
  split
  · rfl
  · rename_i h; rw [if_neg h] at e; exact (e rfl).elim
theorem sealCheck_ok (T : World) (h : Hp) (p q r s : Option Addr) (k n w m c1 c2 c3 c4 most : Nat) :
    CallsH Tryd.prog T 181 #[.slice p k c1, .slice q n c2, .slice r w c3, .slice s m c4, .int .i64 most] h fun v' h' => v' = .int .i64 (sealErr k n w m most) ∧ h' = h := by
  refine CallsH.of_code' (args := [_, _, _, _, _]) Tryd.func181 rfl rfl rfl rfl ?_
  unfold sealErr
  by_cases q0 : k = 32
  ·
    by_cases q1 : n = 12
    ·
      by_cases q2 : w ≤ 256
      ·
        by_cases q3 : m ≤ most
        ·
          have c0 : (k : Int) = 32 ∨ ¬ (k : Int) = 32 := by omega
          have c1 : (n : Int) = 12 ∨ ¬ (n : Int) = 12 := by omega
          have c2 : 256 < (w : Int) ∨ ¬ 256 < (w : Int) := by omega
          have c3 : (most : Int) < (m : Int) ∨ ¬ (most : Int) < (m : Int) := by omega
          rcases c0 with c0 | c0 <;> rcases c1 with c1 | c1 <;> rcases c2 with c2 | c2 <;> rcases c3 with c3 | c3 <;> first
            | (exfalso; omega)
            | (rw [if_neg (by omega)]; simp (config := {maxSteps := 2000000, implicitDefEqProofs := false}) only [go_sem, ↓reduceIte, Nat.reduceEqDiff, Nat.reduceAdd, Nat.reduceMul, Nat.reduceLeDiff, Nat.reduceLT, Nat.reduceSub, IntWalk.iteOmega, IntWalk.toNatUp, reduceCtorEq, Int.reduceLE, Int.reduceLT, Int.reduceToNat, Int.reduceNeg, c0, c1, c2, c3])
            | (rw [if_pos (by omega)]; simp (config := {maxSteps := 2000000, implicitDefEqProofs := false}) only [go_sem, ↓reduceIte, Nat.reduceEqDiff, Nat.reduceAdd, Nat.reduceMul, Nat.reduceLeDiff, Nat.reduceLT, Nat.reduceSub, IntWalk.iteOmega, IntWalk.toNatUp, reduceCtorEq, Int.reduceLE, Int.reduceLT, Int.reduceToNat, Int.reduceNeg, c0, c1, c2, c3])
        ·
          have c0 : (k : Int) = 32 ∨ ¬ (k : Int) = 32 := by omega
          have c1 : (n : Int) = 12 ∨ ¬ (n : Int) = 12 := by omega
          have c2 : 256 < (w : Int) ∨ ¬ 256 < (w : Int) := by omega
          have c3 : (most : Int) < (m : Int) ∨ ¬ (most : Int) < (m : Int) := by omega
          rcases c0 with c0 | c0 <;> rcases c1 with c1 | c1 <;> rcases c2 with c2 | c2 <;> rcases c3 with c3 | c3 <;> first
            | (exfalso; omega)
            | (rw [if_neg (by omega)]; simp (config := {maxSteps := 2000000, implicitDefEqProofs := false}) only [go_sem, ↓reduceIte, Nat.reduceEqDiff, Nat.reduceAdd, Nat.reduceMul, Nat.reduceLeDiff, Nat.reduceLT, Nat.reduceSub, IntWalk.iteOmega, IntWalk.toNatUp, reduceCtorEq, Int.reduceLE, Int.reduceLT, Int.reduceToNat, Int.reduceNeg, c0, c1, c2, c3])
            | (rw [if_pos (by omega)]; simp (config := {maxSteps := 2000000, implicitDefEqProofs := false}) only [go_sem, ↓reduceIte, Nat.reduceEqDiff, Nat.reduceAdd, Nat.reduceMul, Nat.reduceLeDiff, Nat.reduceLT, Nat.reduceSub, IntWalk.iteOmega, IntWalk.toNatUp, reduceCtorEq, Int.reduceLE, Int.reduceLT, Int.reduceToNat, Int.reduceNeg, c0, c1, c2, c3])
      ·
        have c0 : (k : Int) = 32 ∨ ¬ (k : Int) = 32 := by omega
        have c1 : (n : Int) = 12 ∨ ¬ (n : Int) = 12 := by omega
        have c2 : 256 < (w : Int) ∨ ¬ 256 < (w : Int) := by omega
        have c3 : (most : Int) < (m : Int) ∨ ¬ (most : Int) < (m : Int) := by omega
        rcases c0 with c0 | c0 <;> rcases c1 with c1 | c1 <;> rcases c2 with c2 | c2 <;> rcases c3 with c3 | c3 <;> first
          | (exfalso; omega)
          | (rw [if_neg (by omega)]; simp (config := {maxSteps := 2000000, implicitDefEqProofs := false}) only [go_sem, ↓reduceIte, Nat.reduceEqDiff, Nat.reduceAdd, Nat.reduceMul, Nat.reduceLeDiff, Nat.reduceLT, Nat.reduceSub, IntWalk.iteOmega, IntWalk.toNatUp, reduceCtorEq, Int.reduceLE, Int.reduceLT, Int.reduceToNat, Int.reduceNeg, c0, c1, c2, c3])
          | (rw [if_pos (by omega)]; simp (config := {maxSteps := 2000000, implicitDefEqProofs := false}) only [go_sem, ↓reduceIte, Nat.reduceEqDiff, Nat.reduceAdd, Nat.reduceMul, Nat.reduceLeDiff, Nat.reduceLT, Nat.reduceSub, IntWalk.iteOmega, IntWalk.toNatUp, reduceCtorEq, Int.reduceLE, Int.reduceLT, Int.reduceToNat, Int.reduceNeg, c0, c1, c2, c3])
    ·
      have c0 : (k : Int) = 32 ∨ ¬ (k : Int) = 32 := by omega
      have c1 : (n : Int) = 12 ∨ ¬ (n : Int) = 12 := by omega
      have c2 : 256 < (w : Int) ∨ ¬ 256 < (w : Int) := by omega
      have c3 : (most : Int) < (m : Int) ∨ ¬ (most : Int) < (m : Int) := by omega
      rcases c0 with c0 | c0 <;> rcases c1 with c1 | c1 <;> rcases c2 with c2 | c2 <;> rcases c3 with c3 | c3 <;> first
        | (exfalso; omega)
        | (rw [if_neg (by omega)]; simp (config := {maxSteps := 2000000, implicitDefEqProofs := false}) only [go_sem, ↓reduceIte, Nat.reduceEqDiff, Nat.reduceAdd, Nat.reduceMul, Nat.reduceLeDiff, Nat.reduceLT, Nat.reduceSub, IntWalk.iteOmega, IntWalk.toNatUp, reduceCtorEq, Int.reduceLE, Int.reduceLT, Int.reduceToNat, Int.reduceNeg, c0, c1, c2, c3])
        | (rw [if_pos (by omega)]; simp (config := {maxSteps := 2000000, implicitDefEqProofs := false}) only [go_sem, ↓reduceIte, Nat.reduceEqDiff, Nat.reduceAdd, Nat.reduceMul, Nat.reduceLeDiff, Nat.reduceLT, Nat.reduceSub, IntWalk.iteOmega, IntWalk.toNatUp, reduceCtorEq, Int.reduceLE, Int.reduceLT, Int.reduceToNat, Int.reduceNeg, c0, c1, c2, c3])
  ·
    have c0 : (k : Int) = 32 ∨ ¬ (k : Int) = 32 := by omega
    have c1 : (n : Int) = 12 ∨ ¬ (n : Int) = 12 := by omega
    have c2 : 256 < (w : Int) ∨ ¬ 256 < (w : Int) := by omega
    have c3 : (most : Int) < (m : Int) ∨ ¬ (most : Int) < (m : Int) := by omega
    rcases c0 with c0 | c0 <;> rcases c1 with c1 | c1 <;> rcases c2 with c2 | c2 <;> rcases c3 with c3 | c3 <;> first
      | (exfalso; omega)
      | (rw [if_neg (by omega)]; simp (config := {maxSteps := 2000000, implicitDefEqProofs := false}) only [go_sem, ↓reduceIte, Nat.reduceEqDiff, Nat.reduceAdd, Nat.reduceMul, Nat.reduceLeDiff, Nat.reduceLT, Nat.reduceSub, IntWalk.iteOmega, IntWalk.toNatUp, reduceCtorEq, Int.reduceLE, Int.reduceLT, Int.reduceToNat, Int.reduceNeg, c0, c1, c2, c3])
      | (rw [if_pos (by omega)]; simp (config := {maxSteps := 2000000, implicitDefEqProofs := false}) only [go_sem, ↓reduceIte, Nat.reduceEqDiff, Nat.reduceAdd, Nat.reduceMul, Nat.reduceLeDiff, Nat.reduceLT, Nat.reduceSub, IntWalk.iteOmega, IntWalk.toNatUp, reduceCtorEq, Int.reduceLE, Int.reduceLT, Int.reduceToNat, Int.reduceNeg, c0, c1, c2, c3])
theorem sealFault_ok (T : World) (h : Hp) (p q r : Option Addr) (k n w m c1 c2 c3 most : Nat) :
    CallsH Tryd.prog T 184 #[.slice p k c1, .slice q n c2, .slice r w c3, .int .i64 m, .int .i64 most] h fun v' h' => v' = .int .i64 (sealErr k n w m most) ∧ h' = h := by
  refine CallsH.of_code' (args := [_, _, _, _, _]) Tryd.func184 rfl rfl rfl rfl ?_
  unfold sealErr
  by_cases q0 : k = 32
  ·
    by_cases q1 : n = 12
    ·
      by_cases q2 : w ≤ 256
      ·
        by_cases q3 : m ≤ most
        ·
          have c0 : (k : Int) = 32 ∨ ¬ (k : Int) = 32 := by omega
          have c1 : (n : Int) = 12 ∨ ¬ (n : Int) = 12 := by omega
          have c2 : 256 < (w : Int) ∨ ¬ 256 < (w : Int) := by omega
          have c3 : (most : Int) < (m : Int) ∨ ¬ (most : Int) < (m : Int) := by omega
          rcases c0 with c0 | c0 <;> rcases c1 with c1 | c1 <;> rcases c2 with c2 | c2 <;> rcases c3 with c3 | c3 <;> first
            | (exfalso; omega)
            | (rw [if_neg (by omega)]; simp (config := {maxSteps := 2000000, implicitDefEqProofs := false}) only [go_sem, ↓reduceIte, Nat.reduceEqDiff, Nat.reduceAdd, Nat.reduceMul, Nat.reduceLeDiff, Nat.reduceLT, Nat.reduceSub, IntWalk.iteOmega, IntWalk.toNatUp, reduceCtorEq, Int.reduceLE, Int.reduceLT, Int.reduceToNat, Int.reduceNeg, c0, c1, c2, c3])
            | (rw [if_pos (by omega)]; simp (config := {maxSteps := 2000000, implicitDefEqProofs := false}) only [go_sem, ↓reduceIte, Nat.reduceEqDiff, Nat.reduceAdd, Nat.reduceMul, Nat.reduceLeDiff, Nat.reduceLT, Nat.reduceSub, IntWalk.iteOmega, IntWalk.toNatUp, reduceCtorEq, Int.reduceLE, Int.reduceLT, Int.reduceToNat, Int.reduceNeg, c0, c1, c2, c3])
        ·
          have c0 : (k : Int) = 32 ∨ ¬ (k : Int) = 32 := by omega
          have c1 : (n : Int) = 12 ∨ ¬ (n : Int) = 12 := by omega
          have c2 : 256 < (w : Int) ∨ ¬ 256 < (w : Int) := by omega
          have c3 : (most : Int) < (m : Int) ∨ ¬ (most : Int) < (m : Int) := by omega
          rcases c0 with c0 | c0 <;> rcases c1 with c1 | c1 <;> rcases c2 with c2 | c2 <;> rcases c3 with c3 | c3 <;> first
            | (exfalso; omega)
            | (rw [if_neg (by omega)]; simp (config := {maxSteps := 2000000, implicitDefEqProofs := false}) only [go_sem, ↓reduceIte, Nat.reduceEqDiff, Nat.reduceAdd, Nat.reduceMul, Nat.reduceLeDiff, Nat.reduceLT, Nat.reduceSub, IntWalk.iteOmega, IntWalk.toNatUp, reduceCtorEq, Int.reduceLE, Int.reduceLT, Int.reduceToNat, Int.reduceNeg, c0, c1, c2, c3])
            | (rw [if_pos (by omega)]; simp (config := {maxSteps := 2000000, implicitDefEqProofs := false}) only [go_sem, ↓reduceIte, Nat.reduceEqDiff, Nat.reduceAdd, Nat.reduceMul, Nat.reduceLeDiff, Nat.reduceLT, Nat.reduceSub, IntWalk.iteOmega, IntWalk.toNatUp, reduceCtorEq, Int.reduceLE, Int.reduceLT, Int.reduceToNat, Int.reduceNeg, c0, c1, c2, c3])
      ·
        have c0 : (k : Int) = 32 ∨ ¬ (k : Int) = 32 := by omega
        have c1 : (n : Int) = 12 ∨ ¬ (n : Int) = 12 := by omega
        have c2 : 256 < (w : Int) ∨ ¬ 256 < (w : Int) := by omega
        have c3 : (most : Int) < (m : Int) ∨ ¬ (most : Int) < (m : Int) := by omega
        rcases c0 with c0 | c0 <;> rcases c1 with c1 | c1 <;> rcases c2 with c2 | c2 <;> rcases c3 with c3 | c3 <;> first
          | (exfalso; omega)
          | (rw [if_neg (by omega)]; simp (config := {maxSteps := 2000000, implicitDefEqProofs := false}) only [go_sem, ↓reduceIte, Nat.reduceEqDiff, Nat.reduceAdd, Nat.reduceMul, Nat.reduceLeDiff, Nat.reduceLT, Nat.reduceSub, IntWalk.iteOmega, IntWalk.toNatUp, reduceCtorEq, Int.reduceLE, Int.reduceLT, Int.reduceToNat, Int.reduceNeg, c0, c1, c2, c3])
          | (rw [if_pos (by omega)]; simp (config := {maxSteps := 2000000, implicitDefEqProofs := false}) only [go_sem, ↓reduceIte, Nat.reduceEqDiff, Nat.reduceAdd, Nat.reduceMul, Nat.reduceLeDiff, Nat.reduceLT, Nat.reduceSub, IntWalk.iteOmega, IntWalk.toNatUp, reduceCtorEq, Int.reduceLE, Int.reduceLT, Int.reduceToNat, Int.reduceNeg, c0, c1, c2, c3])
    ·
      have c0 : (k : Int) = 32 ∨ ¬ (k : Int) = 32 := by omega
      have c1 : (n : Int) = 12 ∨ ¬ (n : Int) = 12 := by omega
      have c2 : 256 < (w : Int) ∨ ¬ 256 < (w : Int) := by omega
      have c3 : (most : Int) < (m : Int) ∨ ¬ (most : Int) < (m : Int) := by omega
      rcases c0 with c0 | c0 <;> rcases c1 with c1 | c1 <;> rcases c2 with c2 | c2 <;> rcases c3 with c3 | c3 <;> first
        | (exfalso; omega)
        | (rw [if_neg (by omega)]; simp (config := {maxSteps := 2000000, implicitDefEqProofs := false}) only [go_sem, ↓reduceIte, Nat.reduceEqDiff, Nat.reduceAdd, Nat.reduceMul, Nat.reduceLeDiff, Nat.reduceLT, Nat.reduceSub, IntWalk.iteOmega, IntWalk.toNatUp, reduceCtorEq, Int.reduceLE, Int.reduceLT, Int.reduceToNat, Int.reduceNeg, c0, c1, c2, c3])
        | (rw [if_pos (by omega)]; simp (config := {maxSteps := 2000000, implicitDefEqProofs := false}) only [go_sem, ↓reduceIte, Nat.reduceEqDiff, Nat.reduceAdd, Nat.reduceMul, Nat.reduceLeDiff, Nat.reduceLT, Nat.reduceSub, IntWalk.iteOmega, IntWalk.toNatUp, reduceCtorEq, Int.reduceLE, Int.reduceLT, Int.reduceToNat, Int.reduceNeg, c0, c1, c2, c3])
  ·
    have c0 : (k : Int) = 32 ∨ ¬ (k : Int) = 32 := by omega
    have c1 : (n : Int) = 12 ∨ ¬ (n : Int) = 12 := by omega
    have c2 : 256 < (w : Int) ∨ ¬ 256 < (w : Int) := by omega
    have c3 : (most : Int) < (m : Int) ∨ ¬ (most : Int) < (m : Int) := by omega
    rcases c0 with c0 | c0 <;> rcases c1 with c1 | c1 <;> rcases c2 with c2 | c2 <;> rcases c3 with c3 | c3 <;> first
      | (exfalso; omega)
      | (rw [if_neg (by omega)]; simp (config := {maxSteps := 2000000, implicitDefEqProofs := false}) only [go_sem, ↓reduceIte, Nat.reduceEqDiff, Nat.reduceAdd, Nat.reduceMul, Nat.reduceLeDiff, Nat.reduceLT, Nat.reduceSub, IntWalk.iteOmega, IntWalk.toNatUp, reduceCtorEq, Int.reduceLE, Int.reduceLT, Int.reduceToNat, Int.reduceNeg, c0, c1, c2, c3])
      | (rw [if_pos (by omega)]; simp (config := {maxSteps := 2000000, implicitDefEqProofs := false}) only [go_sem, ↓reduceIte, Nat.reduceEqDiff, Nat.reduceAdd, Nat.reduceMul, Nat.reduceLeDiff, Nat.reduceLT, Nat.reduceSub, IntWalk.iteOmega, IntWalk.toNatUp, reduceCtorEq, Int.reduceLE, Int.reduceLT, Int.reduceToNat, Int.reduceNeg, c0, c1, c2, c3])
def sealS (key nonce known plain : List Nat) : List Nat := mixB key 1 nonce plain ++ sealTagS key nonce known (mixB key 1 nonce plain)
def SealRes (B : Nat) (h' : Hp) (v' : Value) (key nonce known plain : List Nat) : Prop := ∃ w, v' = .tuple [w, .int .i64 (sealErr key.length nonce.length known.length plain.length 2000)].toArray ∧ OBs B 5 h' w (if sealErr key.length nonce.length known.length plain.length 2000 = 0 then sealS key nonce known plain else [])
theorem mixErr_fine {key nonce : List Nat} {k : Int} {n : Nat} (hk : key.length = 32) (hn : nonce.length = 12) (h0 : 0 ≤ k) (h1 : k ≤ 1073741824) (hm : n ≤ 2000) : mixErr key k nonce n = 0 := by
  unfold mixErr
  rw [blockErr_fine hk hn h0 h1, if_neg (by simp), if_neg (by omega)]
theorem tagL_le (key data : List Nat) : (tagL key data).length ≤ 16 := by rw [tagL_length]; exact Nat.le_refl _
/-! ### opened -/
theorem subA_zero (a : Option Addr) (c : Nat) : subA a 1 c 0 = a := by
  unfold subA
  split
  · rfl
  · cases a with
    | none => rfl
    | some a => simp [Addr.add]
def openErr (key nonce known data : List Nat) : Int := if sealErr key.length nonce.length known.length data.length 2016 ≠ 0 then 1 else if data.length < 16 then 13 else if sealTagS key nonce known (data.take (data.length - 16)) ≠ data.drop (data.length - 16) then 6 else 0
def openS (key nonce data : List Nat) : List Nat := mixB key 1 nonce (data.take (data.length - 16))
def OpenRes (B : Nat) (h' : Hp) (v' : Value) (key nonce known data : List Nat) : Prop := ∃ w, v' = .tuple [w, .int .i64 (openErr key nonce known data)].toArray ∧ OBs B 5 h' w (if openErr key nonce known data = 0 then openS key nonce data else [])
theorem open_ok (T : World) (h : Hp) (v u kn sv : Value) (key nonce known data : List Nat) (sk : Bs h v key) (sn : Bs h u nonce) (sw : Bs h kn known) (ss : Bs h sv data) (ck : Cap v) (cn : Cap u) (cs : Cap sv) :
    CallsH Tryd.prog T 156 #[v, u, kn, sv] h fun v' h' => OpenRes h.size h' v' key nonce known data ∧ Bel h.size h h' := by
  obtain ⟨p, c, rfl, _⟩ := sk.open
  obtain ⟨q, d, rfl, _⟩ := sn.open
  obtain ⟨pw, cw, rfl, _⟩ := sw.open
  obtain ⟨ps, cd, rfl, _⟩ := ss.open
  have cs : data.length ≤ cd := cs
  refine CallsH.of_code' (args := [_, _, _, _]) Tryd.func156 rfl rfl rfl rfl ?_
  unfold OpenRes
  simp (config := {maxSteps := 2000000, implicitDefEqProofs := false}) only [go_sem, ↓reduceIte, Nat.reduceEqDiff, Nat.reduceAdd, Nat.reduceMul, Nat.reduceLeDiff, Nat.reduceLT, Nat.reduceSub, IntWalk.iteOmega, IntWalk.toNatUp, reduceCtorEq, Int.reduceLE, Int.reduceLT, Int.reduceToNat, Int.reduceNeg]
  refine (sealCheck_ok T _ _ _ _ _ _ _ _ _ _ _ _ _ 2016).pure ?_
  have hoe : openErr key nonce known data = if sealErr key.length nonce.length known.length data.length 2016 ≠ 0 then 1 else if data.length < 16 then 13 else if sealTagS key nonce known (data.take (data.length - 16)) ≠ data.drop (data.length - 16) then 6 else 0 := rfl
  by_cases e : sealErr key.length nonce.length known.length data.length 2016 = 0
  · obtain ⟨hk, hn, hw, hs⟩ := sealErr_zero e
    rw [if_neg (by simp [e])] at hoe
    by_cases h16 : data.length < 16
    · rw [if_pos h16] at hoe
      rw [hoe]
      have n0 : (data.length : Int) - 16 < 0 := by omega
      simp (config := {maxSteps := 2000000, implicitDefEqProofs := false}) only [go_sem, ↓reduceIte, Nat.reduceEqDiff, Nat.reduceAdd, Nat.reduceMul, Nat.reduceLeDiff, Nat.reduceLT, Nat.reduceSub, IntWalk.iteOmega, IntWalk.toNatUp, reduceCtorEq, Int.reduceLE, Int.reduceLT, Int.reduceToNat, Int.reduceNeg, e, n0]
      exact ⟨_, rfl, OBs.nil _ _ _⟩
    · rw [if_neg h16] at hoe
      have n0 : ¬ ((data.length - 16 : Nat) : Int) < 0 := by omega
      have n1 : (data.length : Int) - 16 = ((data.length - 16 : Nat) : Int) := by omega
      have sfr := Bs_take ss (m := data.length - 16) (by omega) cd
      have sbk := Bs_back ss rfl (k := data.length - 16) (by omega) cs (cd - (data.length - 16))
      have lfr : (data.take (data.length - 16)).length = data.length - 16 := by rw [List.length_take]; omega
      have hle1 : ((data.length - 16 : Nat) : Int) ≤ cd := by omega
      have hle2 : ((data.length - 16 : Nat) : Int) ≤ data.length := by omega
      simp (config := {maxSteps := 2000000, implicitDefEqProofs := false}) only [go_sem, ↓reduceIte, Nat.reduceEqDiff, Nat.reduceAdd, Nat.reduceMul, Nat.reduceLeDiff, Nat.reduceLT, Nat.reduceSub, IntWalk.iteOmega, IntWalk.toNatUp, reduceCtorEq, Int.reduceLE, Int.reduceLT, Int.reduceToNat, Int.reduceNeg, e, n1, n0]
      refine VS.w (h.size) [] (.q 0 (.q 1 (.q 2 (.q 3 (.q 4 (.q 5 (.q 7 (.q 8 (.q 9 (.s 6 (.s 10 (.q 11 .nil)))))))))))) mixed (by kernel_rfl) ?_
      simp (config := {maxSteps := 2000000, implicitDefEqProofs := false}) only [go_sem, ↓reduceIte, Nat.reduceEqDiff, Nat.reduceAdd, Nat.reduceMul, Nat.reduceLeDiff, Nat.reduceLT, Nat.reduceSub, IntWalk.iteOmega, IntWalk.toNatUp, reduceCtorEq, Int.reduceLE, Int.reduceLT, Int.reduceToNat, Int.reduceNeg, hle1, hle2, Int.toNat_natCast, vSlcL_sub, subA_zero]
      refine (sealTagP_ok T _ _ _ _ _ key nonce known (data.take (data.length - 16)) sk sn sw sfr hk hn hw (by omega) ck cn).use ?_
      rintro v1 h1 ⟨o1, b1⟩
      have l1 : (sealTagS key nonce known (data.take (data.length - 16))).length ≤ 16 := tagL_le _ _
      simp (config := {maxSteps := 2000000, implicitDefEqProofs := false}) only [go_sem, ↓reduceIte, Nat.reduceEqDiff, Nat.reduceAdd, Nat.reduceMul, Nat.reduceLeDiff, Nat.reduceLT, Nat.reduceSub, IntWalk.iteOmega, IntWalk.toNatUp, reduceCtorEq, Int.reduceLE, Int.reduceLT, Int.reduceToNat, Int.reduceNeg, b1]
      refine (same_ok T _ _ _ _ _ o1.bs (sbk.bel b1) (by omega)).pure ?_
      obtain ⟨S, hS⟩ : ∃ S, S = sealTagS key nonce known (data.take (data.length - 16)) := ⟨_, rfl⟩
      rw [← hS] at hoe ⊢
      by_cases ht : S = data.drop (data.length - 16)
      · rw [if_neg (by simp [ht])] at hoe
        rw [hoe, if_pos rfl]
        have ht' : decide (S = data.drop (data.length - 16)) = true := decide_eq_true ht
        simp (config := {maxSteps := 2000000, implicitDefEqProofs := false}) only [go_sem, ↓reduceIte, Nat.reduceEqDiff, Nat.reduceAdd, Nat.reduceMul, Nat.reduceLeDiff, Nat.reduceLT, Nat.reduceSub, IntWalk.iteOmega, IntWalk.toNatUp, reduceCtorEq, Int.reduceLE, Int.reduceLT, Int.reduceToNat, Int.reduceNeg, b1, ht', hle1, vSlcL_sub, subA_zero]
        refine (mix_ok T _ _ _ _ key nonce (data.take (data.length - 16)) 1 (sk.bel b1) (sn.bel b1) (sfr.bel b1) ck cn).use ?_
        rintro _ h2 ⟨⟨w2, rfl, o2⟩, b2⟩
        have e2 := mixErr_fine (k := 1) hk hn (by decide) (by decide) (show (data.take (data.length - 16)).length ≤ 2000 by omega)
        rw [e2, if_pos rfl] at o2
        rw [e2]
        have o2 : OBs h1.size 5 h2 w2 (openS key nonce data) := o2
        simp (config := {maxSteps := 2000000, implicitDefEqProofs := false}) only [go_sem, ↓reduceIte, Nat.reduceEqDiff, Nat.reduceAdd, Nat.reduceMul, Nat.reduceLeDiff, Nat.reduceLT, Nat.reduceSub, IntWalk.iteOmega, IntWalk.toNatUp, reduceCtorEq, Int.reduceLE, Int.reduceLT, Int.reduceToNat, Int.reduceNeg]
        exact ⟨⟨_, rfl, o2.mono b1.size⟩, b1.trans (b2.mono b1.size)⟩
      · rw [if_pos ht] at hoe
        rw [hoe]
        have ht' : decide (S = data.drop (data.length - 16)) = false := decide_eq_false ht
        simp (config := {maxSteps := 2000000, implicitDefEqProofs := false}) only [go_sem, ↓reduceIte, Nat.reduceEqDiff, Nat.reduceAdd, Nat.reduceMul, Nat.reduceLeDiff, Nat.reduceLT, Nat.reduceSub, IntWalk.iteOmega, IntWalk.toNatUp, reduceCtorEq, Int.reduceLE, Int.reduceLT, Int.reduceToNat, Int.reduceNeg, b1, ht']
        exact ⟨_, rfl, OBs.nil _ _ _⟩
  · have e1 := sealErr_one e
    rw [if_pos e] at hoe
    rw [hoe]
    simp (config := {maxSteps := 2000000, implicitDefEqProofs := false}) only [go_sem, ↓reduceIte, Nat.reduceEqDiff, Nat.reduceAdd, Nat.reduceMul, Nat.reduceLeDiff, Nat.reduceLT, Nat.reduceSub, IntWalk.iteOmega, IntWalk.toNatUp, reduceCtorEq, Int.reduceLE, Int.reduceLT, Int.reduceToNat, Int.reduceNeg, e1]
    exact ⟨_, rfl, OBs.nil _ _ _⟩
theorem opened_ok (T : World) (h : Hp) (v u kn sv : Value) (key nonce known data : List Nat) (sk : Bs h v key) (sn : Bs h u nonce) (sw : Bs h kn known) (ss : Bs h sv data) (cs : Cap sv) :
    CallsH Tryd.prog T 158 #[v, u, kn, sv] h fun v' h' => OpenRes h.size h' v' key nonce known data ∧ Bel h.size h h' := by
  obtain ⟨p, c, rfl, _⟩ := sk.open
  obtain ⟨q, d, rfl, _⟩ := sn.open
  obtain ⟨pw, cw, rfl, _⟩ := sw.open
  obtain ⟨ps, cd, rfl, _⟩ := ss.open
  have cs : data.length ≤ cd := cs
  refine CallsH.of_code' (args := [_, _, _, _]) Tryd.func158 rfl rfl rfl rfl ?_
  unfold OpenRes
  simp (config := {maxSteps := 2000000, implicitDefEqProofs := false}) only [go_sem, ↓reduceIte, Nat.reduceEqDiff, Nat.reduceAdd, Nat.reduceMul, Nat.reduceLeDiff, Nat.reduceLT, Nat.reduceSub, IntWalk.iteOmega, IntWalk.toNatUp, reduceCtorEq, Int.reduceLE, Int.reduceLT, Int.reduceToNat, Int.reduceNeg]
  refine (sealFault_ok T _ _ _ _ _ _ _ _ _ _ _ 2016).pure ?_
  have hoe : openErr key nonce known data = if sealErr key.length nonce.length known.length data.length 2016 ≠ 0 then 1 else if data.length < 16 then 13 else if sealTagS key nonce known (data.take (data.length - 16)) ≠ data.drop (data.length - 16) then 6 else 0 := rfl
  by_cases e : sealErr key.length nonce.length known.length data.length 2016 = 0
  · obtain ⟨hk, hn, hw, hs⟩ := sealErr_zero e
    rw [if_neg (by simp [e])] at hoe
    by_cases h16 : data.length < 16
    · rw [if_pos h16] at hoe
      rw [hoe]
      have n0 : (data.length : Int) < 16 := by omega
      simp (config := {maxSteps := 2000000, implicitDefEqProofs := false}) only [go_sem, ↓reduceIte, Nat.reduceEqDiff, Nat.reduceAdd, Nat.reduceMul, Nat.reduceLeDiff, Nat.reduceLT, Nat.reduceSub, IntWalk.iteOmega, IntWalk.toNatUp, reduceCtorEq, Int.reduceLE, Int.reduceLT, Int.reduceToNat, Int.reduceNeg, e, n0]
      exact ⟨_, rfl, OBs.nil _ _ _⟩
    · rw [if_neg h16] at hoe
      have n0 : ¬ (data.length : Int) < 16 := by omega
      have n1 : (data.length : Int) - 16 = ((data.length - 16 : Nat) : Int) := by omega
      have sfr := Bs_take ss (m := data.length - 16) (by omega) cd
      have sbk := Bs_back ss rfl (k := data.length - 16) (by omega) cs (cd - (data.length - 16))
      have lfr : (data.take (data.length - 16)).length = data.length - 16 := by rw [List.length_take]; omega
      have hle1 : ((data.length - 16 : Nat) : Int) ≤ cd := by omega
      have hle2 : ((data.length - 16 : Nat) : Int) ≤ data.length := by omega
      simp (config := {maxSteps := 2000000, implicitDefEqProofs := false}) only [go_sem, ↓reduceIte, Nat.reduceEqDiff, Nat.reduceAdd, Nat.reduceMul, Nat.reduceLeDiff, Nat.reduceLT, Nat.reduceSub, IntWalk.iteOmega, IntWalk.toNatUp, reduceCtorEq, Int.reduceLE, Int.reduceLT, Int.reduceToNat, Int.reduceNeg, e, n1, n0, hle1, hle2, Int.toNat_natCast, vSlcL_sub, subA_zero]
      refine (sealTagR_ok T _ _ _ _ _ key nonce known (data.take (data.length - 16)) sk sn sw sfr hk hn hw (by omega)).use ?_
      rintro v1 h1 ⟨o1, b1⟩
      have l1 : (sealTagS key nonce known (data.take (data.length - 16))).length ≤ 16 := tagL_le _ _
      have c1 := o1.bs
      have c2 := sbk.bel b1
      have hoS : ∀ x ∈ sealTagS key nonce known (data.take (data.length - 16)), x < 256 := o1.byte
      have hoD : ∀ x ∈ data.drop (data.length - 16), x < 256 := c2.byte
      obtain ⟨S, hS⟩ : ∃ S, S = sealTagS key nonce known (data.take (data.length - 16)) := ⟨_, rfl⟩
      rw [← hS] at hoe c1 hoS
      simp (config := {maxSteps := 2000000, implicitDefEqProofs := false}) only [go_sem, ↓reduceIte, Nat.reduceEqDiff, Nat.reduceAdd, Nat.reduceMul, Nat.reduceLeDiff, Nat.reduceLT, Nat.reduceSub, IntWalk.iteOmega, IntWalk.toNatUp, reduceCtorEq, Int.reduceLE, Int.reduceLT, Int.reduceToNat, Int.reduceNeg]
      refine VS.q mixed (by kernel_rfl) ?_
      simp (config := {maxSteps := 2000000, implicitDefEqProofs := false}) only [go_sem, ↓reduceIte, Nat.reduceEqDiff, Nat.reduceAdd, Nat.reduceMul, Nat.reduceLeDiff, Nat.reduceLT, Nat.reduceSub, IntWalk.iteOmega, IntWalk.toNatUp, reduceCtorEq, Int.reduceLE, Int.reduceLT, Int.reduceToNat, Int.reduceNeg, hle1, hle2, Int.toNat_natCast, vSlcL_sub, subA_zero]
      refine ⟨_, conv_str Tryd.underlying29 Tryd.underlying9 Tryd.underlying5 c1 ⟨rfl, rfl⟩, ?_⟩
      have he := bytes_eq S (data.drop (data.length - 16)) hoS hoD
      unfold ap
      simp (config := {maxSteps := 2000000, implicitDefEqProofs := false}) only [go_sem, ↓reduceIte, Nat.reduceEqDiff, Nat.reduceAdd, Nat.reduceMul, Nat.reduceLeDiff, Nat.reduceLT, Nat.reduceSub, IntWalk.iteOmega, IntWalk.toNatUp, reduceCtorEq, Int.reduceLE, Int.reduceLT, Int.reduceToNat, Int.reduceNeg, hle1, hle2, Int.toNat_natCast, vSlcL_sub, subA_zero]
      refine ⟨_, conv_str Tryd.underlying29 Tryd.underlying9 Tryd.underlying5 c2 ⟨rfl, rfl⟩, ?_⟩
      by_cases ht : S = data.drop (data.length - 16)
      · rw [if_neg (by simp [ht])] at hoe
        rw [hoe, if_pos rfl]
        have ht' : decide (S = data.drop (data.length - 16)) = true := decide_eq_true ht
        rw [ht'] at he
        unfold ap
        simp (config := {maxSteps := 2000000, implicitDefEqProofs := false}) only [go_sem, ↓reduceIte, Nat.reduceEqDiff, Nat.reduceAdd, Nat.reduceMul, Nat.reduceLeDiff, Nat.reduceLT, Nat.reduceSub, IntWalk.iteOmega, IntWalk.toNatUp, reduceCtorEq, Int.reduceLE, Int.reduceLT, Int.reduceToNat, Int.reduceNeg, he, hle1, vSlcL_sub, subA_zero]
        refine (mixed_ok T _ _ _ _ key nonce (data.take (data.length - 16)) 1 (sk.bel b1) (sn.bel b1) (sfr.bel b1)).use ?_
        rintro _ h2 ⟨⟨w2, rfl, o2⟩, b2⟩
        have e2 := mixErr_fine (k := 1) hk hn (by decide) (by decide) (show (data.take (data.length - 16)).length ≤ 2000 by omega)
        rw [e2, if_pos rfl] at o2
        rw [e2]
        have o2 : OBs h1.size 5 h2 w2 (openS key nonce data) := o2
        simp (config := {maxSteps := 2000000, implicitDefEqProofs := false}) only [go_sem, ↓reduceIte, Nat.reduceEqDiff, Nat.reduceAdd, Nat.reduceMul, Nat.reduceLeDiff, Nat.reduceLT, Nat.reduceSub, IntWalk.iteOmega, IntWalk.toNatUp, reduceCtorEq, Int.reduceLE, Int.reduceLT, Int.reduceToNat, Int.reduceNeg]
        exact ⟨⟨_, rfl, o2.mono b1.size⟩, b1.trans (b2.mono b1.size)⟩
      · rw [if_pos ht] at hoe
        rw [hoe]
        have ht' : decide (S = data.drop (data.length - 16)) = false := decide_eq_false ht
        rw [ht'] at he
        unfold ap
        simp (config := {maxSteps := 2000000, implicitDefEqProofs := false}) only [go_sem, ↓reduceIte, Nat.reduceEqDiff, Nat.reduceAdd, Nat.reduceMul, Nat.reduceLeDiff, Nat.reduceLT, Nat.reduceSub, IntWalk.iteOmega, IntWalk.toNatUp, reduceCtorEq, Int.reduceLE, Int.reduceLT, Int.reduceToNat, Int.reduceNeg, he]
        exact ⟨⟨_, rfl, OBs.nil _ _ _⟩, b1⟩
  · have e1 := sealErr_one e
    rw [if_pos e] at hoe
    rw [hoe]
    simp (config := {maxSteps := 2000000, implicitDefEqProofs := false}) only [go_sem, ↓reduceIte, Nat.reduceEqDiff, Nat.reduceAdd, Nat.reduceMul, Nat.reduceLeDiff, Nat.reduceLT, Nat.reduceSub, IntWalk.iteOmega, IntWalk.toNatUp, reduceCtorEq, Int.reduceLE, Int.reduceLT, Int.reduceToNat, Int.reduceNeg, e1]
    exact ⟨_, rfl, OBs.nil _ _ _⟩
end Go.Proofs.YtnpacofabdgcdaaDoor
