/- The digest under a key, checked; and the document's; no condition but those in the statements. -/
import Derived.Test.YtnpacofabdgcdaaDoorShm
import Derived.Test.YtnpacofabdgcdaaDoorW12
namespace Go.Proofs.YtnpacofabdgcdaaDoor
open Go Go.V
set_option linter.unusedSimpArgs false
set_option linter.unusedVariables false
set_option maxRecDepth 100000
def macErr (m n : Nat) : Int := if 256 < m ∨ 2000 < n then 1 else 0
def MacRes (B : Nat) (h' : Hp) (v' : Value) (key b : List Nat) : Prop := ∃ w, v' = .tuple [w, .int .i64 (macErr key.length b.length)].toArray ∧ OBs B 5 h' w (if macErr key.length b.length = 0 then macS key b else [])
theorem shaMac_ok (T : World) (h : Hp) (v u : Value) (key b : List Nat) (s : Bs h v key) (sb : Bs h u b) (tk : Tk h) :
    CallsH Tryd.prog T 27 #[v, u] h fun v' h' => MacRes h.size h' v' key b ∧ Bel h.size h h' := by
  obtain ⟨p, cp, rfl, hc1⟩ := s.open
  obtain ⟨q, cq, rfl, hc2⟩ := sb.open
  refine CallsH.of_code' (args := [_, _]) Tryd.func27 rfl rfl rfl rfl ?_
  unfold MacRes macErr
  by_cases e1 : 256 < key.length
  · have e1' : 256 < (key.length : Int) := by omega
    rw [if_pos (.inl e1)]
    simp (config := {maxSteps := 2000000, implicitDefEqProofs := false}) only [go_sem, ↓reduceIte, Nat.reduceEqDiff, Nat.reduceAdd, Nat.reduceMul, Nat.reduceLeDiff, Nat.reduceLT, Nat.reduceSub, IntWalk.iteOmega, IntWalk.toNatUp, reduceCtorEq, Int.reduceLE, Int.reduceLT, Int.reduceToNat, Int.reduceNeg, e1']
    exact ⟨_, rfl, OBs.nil _ _ _⟩
  · have e1' : ¬ 256 < (key.length : Int) := by omega
    by_cases e2 : 2000 < b.length
    · have e2' : 2000 < (b.length : Int) := by omega
      rw [if_pos (.inr e2)]
      simp (config := {maxSteps := 2000000, implicitDefEqProofs := false}) only [go_sem, ↓reduceIte, Nat.reduceEqDiff, Nat.reduceAdd, Nat.reduceMul, Nat.reduceLeDiff, Nat.reduceLT, Nat.reduceSub, IntWalk.iteOmega, IntWalk.toNatUp, reduceCtorEq, Int.reduceLE, Int.reduceLT, Int.reduceToNat, Int.reduceNeg, e1', e2']
      exact ⟨_, rfl, OBs.nil _ _ _⟩
    · have e2' : ¬ 2000 < (b.length : Int) := by omega
      rw [if_neg (by omega)]
      simp (config := {maxSteps := 2000000, implicitDefEqProofs := false}) only [go_sem, ↓reduceIte, Nat.reduceEqDiff, Nat.reduceAdd, Nat.reduceMul, Nat.reduceLeDiff, Nat.reduceLT, Nat.reduceSub, IntWalk.iteOmega, IntWalk.toNatUp, reduceCtorEq, Int.reduceLE, Int.reduceLT, Int.reduceToNat, Int.reduceNeg, e1', e2']
      refine (mac_ok T _ _ _ key b s sb (by omega) (by omega) tk).use ?_
      rintro w h1 ⟨o1, b1⟩
      simp (config := {maxSteps := 2000000, implicitDefEqProofs := false}) only [go_sem, ↓reduceIte, Nat.reduceEqDiff, Nat.reduceAdd, Nat.reduceMul, Nat.reduceLeDiff, Nat.reduceLT, Nat.reduceSub, IntWalk.iteOmega, IntWalk.toNatUp, reduceCtorEq, Int.reduceLE, Int.reduceLT, Int.reduceToNat, Int.reduceNeg, b1]
      exact ⟨_, rfl, o1⟩
theorem macced_ok (T : World) (h : Hp) (v u : Value) (key b : List Nat) (s : Bs h v key) (sb : Bs h u b) (hk : key.length ≤ 10000) (hb : b.length ≤ 10000) :
    CallsH Tryd.prog T 75 #[v, u] h fun v' h' => OBs h.size 5 h' v' (macS key b) ∧ Bel h.size h h' := by
  obtain ⟨p, cp, rfl, hc1⟩ := s.opend
  have hkb : Byte key := s.byte
  unfold macS
  obtain ⟨P5, hP5⟩ : ∃ P, P = padK key 54 := ⟨_, rfl⟩
  obtain ⟨P6, hP6⟩ : ∃ P, P = padK key 92 := ⟨_, rfl⟩
  have pl5 : P5.length = 64 := by rw [hP5]; exact padK_length _ _
  have pl6 : P6.length = 64 := by rw [hP6]; exact padK_length _ _
  have pb5 : Byte P5 := by rw [hP5]; exact padK_byte hkb (by decide)
  have pb6 : Byte P6 := by rw [hP6]; exact padK_byte hkb (by decide)
  have px5 : ∀ i, i < 64 → P5.getD i 0 = (padZ key).getD i 0 ^^^ 54 := fun i hi => by rw [hP5]; exact padK_getD key 54 hi
  have px6 : ∀ i, i < 64 → P6.getD i 0 = (padZ key).getD i 0 ^^^ 92 := fun i hi => by rw [hP6]; exact padK_getD key 92 hi
  rw [← hP5, ← hP6]
  clear hP5 hP6
  refine CallsH.of_code' (args := [_, _]) Tryd.func75 rfl rfl rfl rfl ?_
  by_cases e64 : 64 < key.length
  · have e64' : 64 < (key.length : Int) := by omega
    simp (config := {maxSteps := 2000000, implicitDefEqProofs := false}) only [go_sem, ↓reduceIte, Nat.reduceEqDiff, Nat.reduceAdd, Nat.reduceMul, Nat.reduceLeDiff, Nat.reduceLT, Nat.reduceSub, IntWalk.iteOmega, IntWalk.toNatUp, reduceCtorEq, Int.reduceLE, Int.reduceLT, Int.reduceToNat, Int.reduceNeg, e64']
    refine (digested_ok T h _ key s (by omega)).use ?_
    rintro w h0 ⟨o0, B0⟩
    have hs0 := B0.size
    obtain ⟨K, hKe⟩ : ∃ K, K = shaS key := ⟨_, rfl⟩
    have hK : keyS key = K := by unfold keyS; rw [if_pos e64, hKe]
    rw [← hKe] at o0
    have sK := o0.bs
    obtain ⟨pK, cK, rfl, hcK⟩ := sK.opend
    have hKb : Byte K := sK.byte
    simp (config := {maxSteps := 2000000, implicitDefEqProofs := false}) only [go_sem, ↓reduceIte, Nat.reduceEqDiff, Nat.reduceAdd, Nat.reduceMul, Nat.reduceLeDiff, Nat.reduceLT, Nat.reduceSub, IntWalk.iteOmega, IntWalk.toNatUp, reduceCtorEq, Int.reduceLE, Int.reduceLT, Int.reduceToNat, Int.reduceNeg]
    refine VS.loop' (fun F g => Bel h0.size h0 g ∧ F 0 = .slice pK K.length cK ∧ F 1 = u ∧ ∃ i : Nat, i ≤ 64 ∧ F 7 = .int .i64 i ∧ OBs h0.size 5 g (F 5) (P5.take i) ∧ OBs h0.size 5 g (F 6) (P6.take i) ∧ ∀ b, blkOf (F 5) = some b → ¬ blkOf (F 6) = some b)
      (fun F _ => 64 - (vi (F 7)).toNat) rfl ⟨Bel.refl _ _, rfl, rfl, 0, by omega, rfl, OBs.nil _ _ _, OBs.nil _ _ _, fun b hb => by cases hb⟩ ?_
    rintro F g ⟨hg, f0, f1, i, hi, f7, o5, o6, hsep⟩
    have hgs := hg.size
    by_cases hlt : i < 64
    · have hlt' : (i : Int) < 64 := by omega
      by_cases hin : i < K.length
      · have hin' : (i : Int) < (K.length : Int) := by omega
        obtain ⟨bb, ob, rfl, hbb, hcs⟩ := hcK (by intro e; rw [e] at hin; simp at hin)
        have n1 : V.hc g ⟨bb, ob + i, none⟩ = some (.int .u8 (K.getD i 0 : Nat)) := by rw [hg.hc (by exact hbb)]; exact hcs i hin
        have hXb : K.getD i 0 < 256 := getD_byte hKb i
        have x5 : Unit → bitOp .xor .u8 ((K.getD i 0 : Nat) : Int) 54 = ((P5.getD i 0 : Nat) : Int) := fun _ => by
          rw [px5 i hlt, padZ_getD, hK]; exact xor_u8 _ 54 hXb (by decide)
        have x6 : Unit → bitOp .xor .u8 ((K.getD i 0 : Nat) : Int) 92 = ((P6.getD i 0 : Nat) : Int) := fun _ => by
          rw [px6 i hlt, padZ_getD, hK]; exact xor_u8 _ 92 hXb (by decide)
        have y5 := getD_byte pb5 i
        have y6 := getD_byte pb6 i
        have t5 : P5.take (i + 1) = P5.take i ++ [P5.getD i 0] := by
          rw [take_snoc _ i (by omega), List.getD_eq_getElem?_getD, List.getElem?_eq_getElem (by omega)]; rfl
        have t6 : P6.take (i + 1) = P6.take i ++ [P6.getD i 0] := by
          rw [take_snoc _ i (by omega), List.getD_eq_getElem?_getD, List.getElem?_eq_getElem (by omega)]; rfl
        have l5 : (P5.take i).length ≤ 64 := by rw [List.length_take]; omega
        have l6 : (P6.take i).length ≤ 64 := by rw [List.length_take]; omega
        generalize P5.getD i 0 = X5 at *
        generalize P6.getD i 0 = X6 at *
        simp (config := {maxSteps := 2000000, implicitDefEqProofs := false}) only [go_sem, ↓reduceIte, Nat.reduceEqDiff, Nat.reduceAdd, Nat.reduceMul, Nat.reduceLeDiff, Nat.reduceLT, Nat.reduceSub, IntWalk.iteOmega, IntWalk.toNatUp, reduceCtorEq, Int.reduceLE, Int.reduceLT, Int.reduceToNat, Int.reduceNeg, f0, f7, hlt', hin', n1, x5 ()]
        refine append_bytes2 (E := 5) (B := h0.size) tsl29 Tryd.underlying29 tn5 tz5 tb5 (o5.push _) (by simp; omega) (Bs.one y5 1) (by simp only [List.length_singleton]; omega) ?_
        intro w5 g5 o5' b5 bt5 bk5
        have hs5 := b5.size
        simp only [Array.size_push] at hs5 bk5
        have q6 : OBs h0.size 5 g5 (F 6) (P6.take i) := (o6.push _).but bt5 (fun b hb e => by
          exact hsep b e hb)
        simp (config := {maxSteps := 2000000, implicitDefEqProofs := false}) only [go_sem, ↓reduceIte, Nat.reduceEqDiff, Nat.reduceAdd, Nat.reduceMul, Nat.reduceLeDiff, Nat.reduceLT, Nat.reduceSub, IntWalk.iteOmega, IntWalk.toNatUp, reduceCtorEq, Int.reduceLE, Int.reduceLT, Int.reduceToNat, Int.reduceNeg, f0, f7, x6 ()]
        refine append_bytes2 (E := 5) (B := h0.size) tsl29 Tryd.underlying29 tn5 tz5 tb5 (q6.push _) (by simp; omega) (Bs.one y6 1) (by simp only [List.length_singleton]; omega) ?_
        intro w6 g6 o6' b6 bt6 bk6
        simp only [Array.size_push] at bk6
        have hsep5 : ∀ b, blkOf w5 = some b → ¬ blkOf (F 6) = some b := fun b hb e => by
          rcases bk5 b hb with h1 | h1
          · exact hsep b h1 e
          · have := o6.own.lt b e; omega
        simp (config := {maxSteps := 2000000, implicitDefEqProofs := false}) only [go_sem, ↓reduceIte, Nat.reduceEqDiff, Nat.reduceAdd, Nat.reduceMul, Nat.reduceLeDiff, Nat.reduceLT, Nat.reduceSub, IntWalk.iteOmega, IntWalk.toNatUp, reduceCtorEq, Int.reduceLE, Int.reduceLT, Int.reduceToNat, Int.reduceNeg, f0, f7]
        refine ⟨⟨((hg.addP hgs _).trans b5).trans ((Bel.push (by omega) _).trans b6), f0, f1, i + 1, hlt, rfl, ?_, ?_, fun b hb e => ?_⟩, ?_⟩
        · rw [t5]; exact (o5'.push _).but bt6 (fun b hb e => hsep5 b hb e)
        · rw [t6]; exact o6'
        · have hb' : blkOf w5 = some b := hb
          have e' : blkOf w6 = some b := e
          rcases bk6 b e' with h1 | h1
          · exact hsep5 b hb' h1
          · have := o5'.own.lt b hb'; omega
        · simp only [vi, updo_some, ↓reduceIte, f7]; omega
      · have hin' : ¬ (i : Int) < (K.length : Int) := by omega
        have e0 : K.getD i 0 = 0 := by rw [List.getD_eq_getElem?_getD, List.getElem?_eq_none (by omega)]; rfl
        have n1 : ((K.getD i 0 : Nat) : Int) = 0 := by rw [e0]; rfl
        have hXb : K.getD i 0 < 256 := getD_byte hKb i
        have x5 : Unit → bitOp .xor .u8 ((K.getD i 0 : Nat) : Int) 54 = ((P5.getD i 0 : Nat) : Int) := fun _ => by
          rw [px5 i hlt, padZ_getD, hK]; exact xor_u8 _ 54 hXb (by decide)
        have x6 : Unit → bitOp .xor .u8 ((K.getD i 0 : Nat) : Int) 92 = ((P6.getD i 0 : Nat) : Int) := fun _ => by
          rw [px6 i hlt, padZ_getD, hK]; exact xor_u8 _ 92 hXb (by decide)
        have y5 := getD_byte pb5 i
        have y6 := getD_byte pb6 i
        have t5 : P5.take (i + 1) = P5.take i ++ [P5.getD i 0] := by
          rw [take_snoc _ i (by omega), List.getD_eq_getElem?_getD, List.getElem?_eq_getElem (by omega)]; rfl
        have t6 : P6.take (i + 1) = P6.take i ++ [P6.getD i 0] := by
          rw [take_snoc _ i (by omega), List.getD_eq_getElem?_getD, List.getElem?_eq_getElem (by omega)]; rfl
        have l5 : (P5.take i).length ≤ 64 := by rw [List.length_take]; omega
        have l6 : (P6.take i).length ≤ 64 := by rw [List.length_take]; omega
        generalize P5.getD i 0 = X5 at *
        generalize P6.getD i 0 = X6 at *
        rw [n1] at x5 x6
        simp (config := {maxSteps := 2000000, implicitDefEqProofs := false}) only [go_sem, ↓reduceIte, Nat.reduceEqDiff, Nat.reduceAdd, Nat.reduceMul, Nat.reduceLeDiff, Nat.reduceLT, Nat.reduceSub, IntWalk.iteOmega, IntWalk.toNatUp, reduceCtorEq, Int.reduceLE, Int.reduceLT, Int.reduceToNat, Int.reduceNeg, f0, f7, hlt', hin', x5 ()]
        refine append_bytes2 (E := 5) (B := h0.size) tsl29 Tryd.underlying29 tn5 tz5 tb5 (o5.push _) (by simp; omega) (Bs.one y5 1) (by simp only [List.length_singleton]; omega) ?_
        intro w5 g5 o5' b5 bt5 bk5
        have hs5 := b5.size
        simp only [Array.size_push] at hs5 bk5
        have q6 : OBs h0.size 5 g5 (F 6) (P6.take i) := (o6.push _).but bt5 (fun b hb e => by
          exact hsep b e hb)
        simp (config := {maxSteps := 2000000, implicitDefEqProofs := false}) only [go_sem, ↓reduceIte, Nat.reduceEqDiff, Nat.reduceAdd, Nat.reduceMul, Nat.reduceLeDiff, Nat.reduceLT, Nat.reduceSub, IntWalk.iteOmega, IntWalk.toNatUp, reduceCtorEq, Int.reduceLE, Int.reduceLT, Int.reduceToNat, Int.reduceNeg, f0, f7, x6 ()]
        refine append_bytes2 (E := 5) (B := h0.size) tsl29 Tryd.underlying29 tn5 tz5 tb5 (q6.push _) (by simp; omega) (Bs.one y6 1) (by simp only [List.length_singleton]; omega) ?_
        intro w6 g6 o6' b6 bt6 bk6
        simp only [Array.size_push] at bk6
        have hsep5 : ∀ b, blkOf w5 = some b → ¬ blkOf (F 6) = some b := fun b hb e => by
          rcases bk5 b hb with h1 | h1
          · exact hsep b h1 e
          · have := o6.own.lt b e; omega
        simp (config := {maxSteps := 2000000, implicitDefEqProofs := false}) only [go_sem, ↓reduceIte, Nat.reduceEqDiff, Nat.reduceAdd, Nat.reduceMul, Nat.reduceLeDiff, Nat.reduceLT, Nat.reduceSub, IntWalk.iteOmega, IntWalk.toNatUp, reduceCtorEq, Int.reduceLE, Int.reduceLT, Int.reduceToNat, Int.reduceNeg, f0, f7]
        refine ⟨⟨((hg.addP hgs _).trans b5).trans ((Bel.push (by omega) _).trans b6), f0, f1, i + 1, hlt, rfl, ?_, ?_, fun b hb e => ?_⟩, ?_⟩
        · rw [t5]; exact (o5'.push _).but bt6 (fun b hb e => hsep5 b hb e)
        · rw [t6]; exact o6'
        · have hb' : blkOf w5 = some b := hb
          have e' : blkOf w6 = some b := e
          rcases bk6 b e' with h1 | h1
          · exact hsep5 b hb' h1
          · have := o5'.own.lt b hb'; omega
        · simp only [vi, updo_some, ↓reduceIte, f7]; omega
    · have hge : ¬ (i : Int) < 64 := by omega
      obtain rfl : i = 64 := by omega
      have l5 := pl5
      have l6 := pl6
      rw [List.take_of_length_le (by omega)] at o5 o6
      have Bg := B0.trans (hg.mono hs0)
      simp (config := {maxSteps := 2000000, implicitDefEqProofs := false}) only [go_sem, ↓reduceIte, Nat.reduceEqDiff, Nat.reduceAdd, Nat.reduceMul, Nat.reduceLeDiff, Nat.reduceLT, Nat.reduceSub, IntWalk.iteOmega, IntWalk.toNatUp, reduceCtorEq, Int.reduceLE, Int.reduceLT, Int.reduceToNat, Int.reduceNeg, f0, f1, f7, hge]
      refine (joined_ok T g _ _ _ b o5.bs (sb.bel Bg) (by omega)).use ?_
      rintro v1 h1 ⟨o1, b1⟩
      have s1 := b1.size
      have o6a := o6.bel b1 (Nat.le_refl _)
      have B1 := Bg.trans (b1.mono (by omega))
      simp (config := {maxSteps := 2000000, implicitDefEqProofs := false}) only [go_sem, ↓reduceIte, Nat.reduceEqDiff, Nat.reduceAdd, Nat.reduceMul, Nat.reduceLeDiff, Nat.reduceLT, Nat.reduceSub, IntWalk.iteOmega, IntWalk.toNatUp, reduceCtorEq, Int.reduceLE, Int.reduceLT, Int.reduceToNat, Int.reduceNeg]
      refine (digested_ok T h1 v1 _ o1.bs (by rw [List.length_append, l5]; omega)).use ?_
      rintro v2 h2 ⟨o2, b2⟩
      have o6b := o6a.bel b2 (Nat.le_refl _)
      have B2 := B1.trans (b2.mono B1.size)
      simp (config := {maxSteps := 2000000, implicitDefEqProofs := false}) only [go_sem, ↓reduceIte, Nat.reduceEqDiff, Nat.reduceAdd, Nat.reduceMul, Nat.reduceLeDiff, Nat.reduceLT, Nat.reduceSub, IntWalk.iteOmega, IntWalk.toNatUp, reduceCtorEq, Int.reduceLE, Int.reduceLT, Int.reduceToNat, Int.reduceNeg]
      refine (joined_ok T h2 _ _ _ _ o6b.bs o2.bs (by rw [shaS_length]; omega)).use ?_
      rintro v3 h3 ⟨o3, b3⟩
      have B3 := B2.trans (b3.mono B2.size)
      simp (config := {maxSteps := 2000000, implicitDefEqProofs := false}) only [go_sem, ↓reduceIte, Nat.reduceEqDiff, Nat.reduceAdd, Nat.reduceMul, Nat.reduceLeDiff, Nat.reduceLT, Nat.reduceSub, IntWalk.iteOmega, IntWalk.toNatUp, reduceCtorEq, Int.reduceLE, Int.reduceLT, Int.reduceToNat, Int.reduceNeg]
      refine (digested_ok T h3 v3 _ o3.bs (by rw [List.length_append, l6, shaS_length]; omega)).use ?_
      rintro v4 h4 ⟨o4, b4⟩
      simp (config := {maxSteps := 2000000, implicitDefEqProofs := false}) only [go_sem, ↓reduceIte, Nat.reduceEqDiff, Nat.reduceAdd, Nat.reduceMul, Nat.reduceLeDiff, Nat.reduceLT, Nat.reduceSub, IntWalk.iteOmega, IntWalk.toNatUp, reduceCtorEq, Int.reduceLE, Int.reduceLT, Int.reduceToNat, Int.reduceNeg]
      exact ⟨o4.mono B3.size, B3.trans (b4.mono B3.size)⟩
  · have e64' : ¬ 64 < (key.length : Int) := by omega
    obtain ⟨K, hKe⟩ : ∃ K, K = key := ⟨_, rfl⟩
    have hK : keyS key = K := by unfold keyS; rw [if_neg e64, hKe]
    have B0 : Bel h.size h h := Bel.refl _ _
    have hs0 := B0.size
    have sK : Bs h (.slice p K.length cp) K := by rw [hKe]; exact s
    have hKb : Byte K := sK.byte
    have hcK : K ≠ [] → ∃ b o, p = some ⟨b, o, none⟩ ∧ b < h.size ∧ ∀ i, i < K.length → V.hc h ⟨b, o + i, none⟩ = some (.int .u8 (K.getD i 0 : Nat)) := by rw [hKe]; exact hc1
    have e64'' : ¬ 64 < (K.length : Int) := by rw [hKe]; exact e64'
    have hkl : key.length = K.length := by rw [hKe]
    rw [hkl]
    simp (config := {maxSteps := 2000000, implicitDefEqProofs := false}) only [go_sem, ↓reduceIte, Nat.reduceEqDiff, Nat.reduceAdd, Nat.reduceMul, Nat.reduceLeDiff, Nat.reduceLT, Nat.reduceSub, IntWalk.iteOmega, IntWalk.toNatUp, reduceCtorEq, Int.reduceLE, Int.reduceLT, Int.reduceToNat, Int.reduceNeg, e64'']
    refine VS.loop' (fun F g => Bel h.size h g ∧ F 0 = .slice p K.length cp ∧ F 1 = u ∧ ∃ i : Nat, i ≤ 64 ∧ F 7 = .int .i64 i ∧ OBs h.size 5 g (F 5) (P5.take i) ∧ OBs h.size 5 g (F 6) (P6.take i) ∧ ∀ b, blkOf (F 5) = some b → ¬ blkOf (F 6) = some b)
      (fun F _ => 64 - (vi (F 7)).toNat) rfl ⟨Bel.refl _ _, rfl, rfl, 0, by omega, rfl, OBs.nil _ _ _, OBs.nil _ _ _, fun b hb => by cases hb⟩ ?_
    rintro F g ⟨hg, f0, f1, i, hi, f7, o5, o6, hsep⟩
    have hgs := hg.size
    by_cases hlt : i < 64
    · have hlt' : (i : Int) < 64 := by omega
      by_cases hin : i < K.length
      · have hin' : (i : Int) < (K.length : Int) := by omega
        obtain ⟨bb, ob, rfl, hbb, hcs⟩ := hcK (by intro e; rw [e] at hin; simp at hin)
        have n1 : V.hc g ⟨bb, ob + i, none⟩ = some (.int .u8 (K.getD i 0 : Nat)) := by rw [hg.hc (by exact hbb)]; exact hcs i hin
        have hXb : K.getD i 0 < 256 := getD_byte hKb i
        have x5 : Unit → bitOp .xor .u8 ((K.getD i 0 : Nat) : Int) 54 = ((P5.getD i 0 : Nat) : Int) := fun _ => by
          rw [px5 i hlt, padZ_getD, hK]; exact xor_u8 _ 54 hXb (by decide)
        have x6 : Unit → bitOp .xor .u8 ((K.getD i 0 : Nat) : Int) 92 = ((P6.getD i 0 : Nat) : Int) := fun _ => by
          rw [px6 i hlt, padZ_getD, hK]; exact xor_u8 _ 92 hXb (by decide)
        have y5 := getD_byte pb5 i
        have y6 := getD_byte pb6 i
        have t5 : P5.take (i + 1) = P5.take i ++ [P5.getD i 0] := by
          rw [take_snoc _ i (by omega), List.getD_eq_getElem?_getD, List.getElem?_eq_getElem (by omega)]; rfl
        have t6 : P6.take (i + 1) = P6.take i ++ [P6.getD i 0] := by
          rw [take_snoc _ i (by omega), List.getD_eq_getElem?_getD, List.getElem?_eq_getElem (by omega)]; rfl
        have l5 : (P5.take i).length ≤ 64 := by rw [List.length_take]; omega
        have l6 : (P6.take i).length ≤ 64 := by rw [List.length_take]; omega
        generalize P5.getD i 0 = X5 at *
        generalize P6.getD i 0 = X6 at *
        simp (config := {maxSteps := 2000000, implicitDefEqProofs := false}) only [go_sem, ↓reduceIte, Nat.reduceEqDiff, Nat.reduceAdd, Nat.reduceMul, Nat.reduceLeDiff, Nat.reduceLT, Nat.reduceSub, IntWalk.iteOmega, IntWalk.toNatUp, reduceCtorEq, Int.reduceLE, Int.reduceLT, Int.reduceToNat, Int.reduceNeg, f0, f7, hlt', hin', n1, x5 ()]
        refine append_bytes2 (E := 5) (B := h.size) tsl29 Tryd.underlying29 tn5 tz5 tb5 (o5.push _) (by simp; omega) (Bs.one y5 1) (by simp only [List.length_singleton]; omega) ?_
        intro w5 g5 o5' b5 bt5 bk5
        have hs5 := b5.size
        simp only [Array.size_push] at hs5 bk5
        have q6 : OBs h.size 5 g5 (F 6) (P6.take i) := (o6.push _).but bt5 (fun b hb e => by
          exact hsep b e hb)
        simp (config := {maxSteps := 2000000, implicitDefEqProofs := false}) only [go_sem, ↓reduceIte, Nat.reduceEqDiff, Nat.reduceAdd, Nat.reduceMul, Nat.reduceLeDiff, Nat.reduceLT, Nat.reduceSub, IntWalk.iteOmega, IntWalk.toNatUp, reduceCtorEq, Int.reduceLE, Int.reduceLT, Int.reduceToNat, Int.reduceNeg, f0, f7, x6 ()]
        refine append_bytes2 (E := 5) (B := h.size) tsl29 Tryd.underlying29 tn5 tz5 tb5 (q6.push _) (by simp; omega) (Bs.one y6 1) (by simp only [List.length_singleton]; omega) ?_
        intro w6 g6 o6' b6 bt6 bk6
        simp only [Array.size_push] at bk6
        have hsep5 : ∀ b, blkOf w5 = some b → ¬ blkOf (F 6) = some b := fun b hb e => by
          rcases bk5 b hb with h1 | h1
          · exact hsep b h1 e
          · have := o6.own.lt b e; omega
        simp (config := {maxSteps := 2000000, implicitDefEqProofs := false}) only [go_sem, ↓reduceIte, Nat.reduceEqDiff, Nat.reduceAdd, Nat.reduceMul, Nat.reduceLeDiff, Nat.reduceLT, Nat.reduceSub, IntWalk.iteOmega, IntWalk.toNatUp, reduceCtorEq, Int.reduceLE, Int.reduceLT, Int.reduceToNat, Int.reduceNeg, f0, f7]
        refine ⟨⟨((hg.addP hgs _).trans b5).trans ((Bel.push (by omega) _).trans b6), f0, f1, i + 1, hlt, rfl, ?_, ?_, fun b hb e => ?_⟩, ?_⟩
        · rw [t5]; exact (o5'.push _).but bt6 (fun b hb e => hsep5 b hb e)
        · rw [t6]; exact o6'
        · have hb' : blkOf w5 = some b := hb
          have e' : blkOf w6 = some b := e
          rcases bk6 b e' with h1 | h1
          · exact hsep5 b hb' h1
          · have := o5'.own.lt b hb'; omega
        · simp only [vi, updo_some, ↓reduceIte, f7]; omega
      · have hin' : ¬ (i : Int) < (K.length : Int) := by omega
        have e0 : K.getD i 0 = 0 := by rw [List.getD_eq_getElem?_getD, List.getElem?_eq_none (by omega)]; rfl
        have n1 : ((K.getD i 0 : Nat) : Int) = 0 := by rw [e0]; rfl
        have hXb : K.getD i 0 < 256 := getD_byte hKb i
        have x5 : Unit → bitOp .xor .u8 ((K.getD i 0 : Nat) : Int) 54 = ((P5.getD i 0 : Nat) : Int) := fun _ => by
          rw [px5 i hlt, padZ_getD, hK]; exact xor_u8 _ 54 hXb (by decide)
        have x6 : Unit → bitOp .xor .u8 ((K.getD i 0 : Nat) : Int) 92 = ((P6.getD i 0 : Nat) : Int) := fun _ => by
          rw [px6 i hlt, padZ_getD, hK]; exact xor_u8 _ 92 hXb (by decide)
        have y5 := getD_byte pb5 i
        have y6 := getD_byte pb6 i
        have t5 : P5.take (i + 1) = P5.take i ++ [P5.getD i 0] := by
          rw [take_snoc _ i (by omega), List.getD_eq_getElem?_getD, List.getElem?_eq_getElem (by omega)]; rfl
        have t6 : P6.take (i + 1) = P6.take i ++ [P6.getD i 0] := by
          rw [take_snoc _ i (by omega), List.getD_eq_getElem?_getD, List.getElem?_eq_getElem (by omega)]; rfl
        have l5 : (P5.take i).length ≤ 64 := by rw [List.length_take]; omega
        have l6 : (P6.take i).length ≤ 64 := by rw [List.length_take]; omega
        generalize P5.getD i 0 = X5 at *
        generalize P6.getD i 0 = X6 at *
        rw [n1] at x5 x6
        simp (config := {maxSteps := 2000000, implicitDefEqProofs := false}) only [go_sem, ↓reduceIte, Nat.reduceEqDiff, Nat.reduceAdd, Nat.reduceMul, Nat.reduceLeDiff, Nat.reduceLT, Nat.reduceSub, IntWalk.iteOmega, IntWalk.toNatUp, reduceCtorEq, Int.reduceLE, Int.reduceLT, Int.reduceToNat, Int.reduceNeg, f0, f7, hlt', hin', x5 ()]
        refine append_bytes2 (E := 5) (B := h.size) tsl29 Tryd.underlying29 tn5 tz5 tb5 (o5.push _) (by simp; omega) (Bs.one y5 1) (by simp only [List.length_singleton]; omega) ?_
        intro w5 g5 o5' b5 bt5 bk5
        have hs5 := b5.size
        simp only [Array.size_push] at hs5 bk5
        have q6 : OBs h.size 5 g5 (F 6) (P6.take i) := (o6.push _).but bt5 (fun b hb e => by
          exact hsep b e hb)
        simp (config := {maxSteps := 2000000, implicitDefEqProofs := false}) only [go_sem, ↓reduceIte, Nat.reduceEqDiff, Nat.reduceAdd, Nat.reduceMul, Nat.reduceLeDiff, Nat.reduceLT, Nat.reduceSub, IntWalk.iteOmega, IntWalk.toNatUp, reduceCtorEq, Int.reduceLE, Int.reduceLT, Int.reduceToNat, Int.reduceNeg, f0, f7, x6 ()]
        refine append_bytes2 (E := 5) (B := h.size) tsl29 Tryd.underlying29 tn5 tz5 tb5 (q6.push _) (by simp; omega) (Bs.one y6 1) (by simp only [List.length_singleton]; omega) ?_
        intro w6 g6 o6' b6 bt6 bk6
        simp only [Array.size_push] at bk6
        have hsep5 : ∀ b, blkOf w5 = some b → ¬ blkOf (F 6) = some b := fun b hb e => by
          rcases bk5 b hb with h1 | h1
          · exact hsep b h1 e
          · have := o6.own.lt b e; omega
        simp (config := {maxSteps := 2000000, implicitDefEqProofs := false}) only [go_sem, ↓reduceIte, Nat.reduceEqDiff, Nat.reduceAdd, Nat.reduceMul, Nat.reduceLeDiff, Nat.reduceLT, Nat.reduceSub, IntWalk.iteOmega, IntWalk.toNatUp, reduceCtorEq, Int.reduceLE, Int.reduceLT, Int.reduceToNat, Int.reduceNeg, f0, f7]
        refine ⟨⟨((hg.addP hgs _).trans b5).trans ((Bel.push (by omega) _).trans b6), f0, f1, i + 1, hlt, rfl, ?_, ?_, fun b hb e => ?_⟩, ?_⟩
        · rw [t5]; exact (o5'.push _).but bt6 (fun b hb e => hsep5 b hb e)
        · rw [t6]; exact o6'
        · have hb' : blkOf w5 = some b := hb
          have e' : blkOf w6 = some b := e
          rcases bk6 b e' with h1 | h1
          · exact hsep5 b hb' h1
          · have := o5'.own.lt b hb'; omega
        · simp only [vi, updo_some, ↓reduceIte, f7]; omega
    · have hge : ¬ (i : Int) < 64 := by omega
      obtain rfl : i = 64 := by omega
      have l5 := pl5
      have l6 := pl6
      rw [List.take_of_length_le (by omega)] at o5 o6
      have Bg := B0.trans (hg.mono hs0)
      simp (config := {maxSteps := 2000000, implicitDefEqProofs := false}) only [go_sem, ↓reduceIte, Nat.reduceEqDiff, Nat.reduceAdd, Nat.reduceMul, Nat.reduceLeDiff, Nat.reduceLT, Nat.reduceSub, IntWalk.iteOmega, IntWalk.toNatUp, reduceCtorEq, Int.reduceLE, Int.reduceLT, Int.reduceToNat, Int.reduceNeg, f0, f1, f7, hge]
      refine (joined_ok T g _ _ _ b o5.bs (sb.bel Bg) (by omega)).use ?_
      rintro v1 h1 ⟨o1, b1⟩
      have s1 := b1.size
      have o6a := o6.bel b1 (Nat.le_refl _)
      have B1 := Bg.trans (b1.mono (by omega))
      simp (config := {maxSteps := 2000000, implicitDefEqProofs := false}) only [go_sem, ↓reduceIte, Nat.reduceEqDiff, Nat.reduceAdd, Nat.reduceMul, Nat.reduceLeDiff, Nat.reduceLT, Nat.reduceSub, IntWalk.iteOmega, IntWalk.toNatUp, reduceCtorEq, Int.reduceLE, Int.reduceLT, Int.reduceToNat, Int.reduceNeg]
      refine (digested_ok T h1 v1 _ o1.bs (by rw [List.length_append, l5]; omega)).use ?_
      rintro v2 h2 ⟨o2, b2⟩
      have o6b := o6a.bel b2 (Nat.le_refl _)
      have B2 := B1.trans (b2.mono B1.size)
      simp (config := {maxSteps := 2000000, implicitDefEqProofs := false}) only [go_sem, ↓reduceIte, Nat.reduceEqDiff, Nat.reduceAdd, Nat.reduceMul, Nat.reduceLeDiff, Nat.reduceLT, Nat.reduceSub, IntWalk.iteOmega, IntWalk.toNatUp, reduceCtorEq, Int.reduceLE, Int.reduceLT, Int.reduceToNat, Int.reduceNeg]
      refine (joined_ok T h2 _ _ _ _ o6b.bs o2.bs (by rw [shaS_length]; omega)).use ?_
      rintro v3 h3 ⟨o3, b3⟩
      have B3 := B2.trans (b3.mono B2.size)
      simp (config := {maxSteps := 2000000, implicitDefEqProofs := false}) only [go_sem, ↓reduceIte, Nat.reduceEqDiff, Nat.reduceAdd, Nat.reduceMul, Nat.reduceLeDiff, Nat.reduceLT, Nat.reduceSub, IntWalk.iteOmega, IntWalk.toNatUp, reduceCtorEq, Int.reduceLE, Int.reduceLT, Int.reduceToNat, Int.reduceNeg]
      refine (digested_ok T h3 v3 _ o3.bs (by rw [List.length_append, l6, shaS_length]; omega)).use ?_
      rintro v4 h4 ⟨o4, b4⟩
      simp (config := {maxSteps := 2000000, implicitDefEqProofs := false}) only [go_sem, ↓reduceIte, Nat.reduceEqDiff, Nat.reduceAdd, Nat.reduceMul, Nat.reduceLeDiff, Nat.reduceLT, Nat.reduceSub, IntWalk.iteOmega, IntWalk.toNatUp, reduceCtorEq, Int.reduceLE, Int.reduceLT, Int.reduceToNat, Int.reduceNeg]
      exact ⟨o4.mono B3.size, B3.trans (b4.mono B3.size)⟩
end Go.Proofs.YtnpacofabdgcdaaDoor
