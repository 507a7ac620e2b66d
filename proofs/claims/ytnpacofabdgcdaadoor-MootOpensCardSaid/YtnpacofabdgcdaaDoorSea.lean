/- Bytes padded to sixteen, lengths in eight bytes, and the tag of what is sealed, on both sides; no condition but those in the statements. -/
import Derived.Test.YtnpacofabdgcdaaDoorPolg
import Derived.Test.YtnpacofabdgcdaaDoorMix
import Derived.Test.YtnpacofabdgcdaaDoorBytes
import Derived.Test.YtnpacofabdgcdaaDoorSame
import Derived.Test.YtnpacofabdgcdaaDoorW15
namespace Go.Proofs.YtnpacofabdgcdaaDoor
open Go Go.V
set_option linter.unusedSimpArgs false
set_option linter.unusedVariables false
set_option maxRecDepth 100000
def padS (l : List Nat) : List Nat := l ++ List.replicate ((16 - l.length % 16) % 16) 0
def lowS (n : Nat) : List Nat := (List.range 8).map fun i => n / 256 ^ i % 256
def sealData (known sealed : List Nat) : List Nat := padS known ++ padS sealed ++ lowS known.length ++ lowS sealed.length
def sealTagS (key nonce known sealed : List Nat) : List Nat := tagL ((blockS key 0 nonce).take 32) (sealData known sealed)
theorem padS_length (l : List Nat) : (padS l).length = l.length + (16 - l.length % 16) % 16 := by simp [padS]
theorem padS_le (l : List Nat) : (padS l).length ≤ l.length + 15 := by rw [padS_length]; omega
theorem lowS_length (n : Nat) : (lowS n).length = 8 := by simp [lowS]
theorem padded_ok (T : World) (h : Hp) (v : Value) (l : List Nat) (s : Bs h v l) (hl : l.length ≤ 4000) :
    CallsH Tryd.prog T 198 #[v] h fun v' h' => OBs h.size 5 h' v' (padS l) ∧ Bel h.size h h' := by
  obtain ⟨p, c, rfl, hc1⟩ := s.open
  refine CallsH.of_code' (args := [_]) Tryd.func198 rfl rfl rfl rfl ?_
  simp (config := {maxSteps := 2000000, implicitDefEqProofs := false}) only [go_sem, ↓reduceIte, Nat.reduceEqDiff, Nat.reduceAdd, Nat.reduceMul, Nat.reduceLeDiff, Nat.reduceLT, Nat.reduceSub, IntWalk.iteOmega, IntWalk.toNatUp, reduceCtorEq, Int.reduceLE, Int.reduceLT, Int.reduceToNat, Int.reduceNeg]
  refine append_bytes (E := 5) (B := h.size) tsl29 Tryd.underlying29 tn5 tz5 tb5 (OBs.nil _ _ _) (Nat.le_refl _) s (by simp; omega) ?_
  intro v1 h1 o1 b1 _
  rw [List.nil_append] at o1
  have e1 : ((l.length : Nat) : Int).tmod 16 = ((l.length % 16 : Nat) : Int) := rfl
  have e2 : (16 : Int) - ((l.length % 16 : Nat) : Int) = ((16 - l.length % 16 : Nat) : Int) := by omega
  have e3 : ((16 - l.length % 16 : Nat) : Int).tmod 16 = (((16 - l.length % 16) % 16 : Nat) : Int) := rfl
  simp (config := {maxSteps := 2000000, implicitDefEqProofs := false}) only [go_sem, ↓reduceIte, Nat.reduceEqDiff, Nat.reduceAdd, Nat.reduceMul, Nat.reduceLeDiff, Nat.reduceLT, Nat.reduceSub, IntWalk.iteOmega, IntWalk.toNatUp, reduceCtorEq, Int.reduceLE, Int.reduceLT, Int.reduceToNat, Int.reduceNeg, e1, e2, e3]
  refine append_noughts (E := 5) (B := h.size) tsl29 Tryd.underlying3 tn5 tz5 tb5 o1 b1.size (by omega) ?_
  intro v2 h2 o2 b2 _
  simp (config := {maxSteps := 2000000, implicitDefEqProofs := false}) only [go_sem, ↓reduceIte, Nat.reduceEqDiff, Nat.reduceAdd, Nat.reduceMul, Nat.reduceLeDiff, Nat.reduceLT, Nat.reduceSub, IntWalk.iteOmega, IntWalk.toNatUp, reduceCtorEq, Int.reduceLE, Int.reduceLT, Int.reduceToNat, Int.reduceNeg]
  exact ⟨o2, b1.trans b2⟩
theorem length_ok (T : World) (h : Hp) (n : Nat) (hn : n < 9223372036854775808) :
    CallsH Tryd.prog T 199 #[.int .i64 n] h fun v' h' => OBs h.size 5 h' v' (lowS n) ∧ Bel h.size h h' := by
  refine CallsH.of_code' (args := [_]) Tryd.func199 rfl rfl rfl rfl ?_
  simp (config := {maxSteps := 2000000, implicitDefEqProofs := false}) only [go_sem, ↓reduceIte, Nat.reduceEqDiff, Nat.reduceAdd, Nat.reduceMul, Nat.reduceLeDiff, Nat.reduceLT, Nat.reduceSub, IntWalk.iteOmega, IntWalk.toNatUp, reduceCtorEq, Int.reduceLE, Int.reduceLT, Int.reduceToNat, Int.reduceNeg]
  refine VS.loop' (fun F g => Bel h.size h g ∧ F 0 = .int .i64 n ∧ ∃ j : Nat, j ≤ 8 ∧ F 4 = .int .i64 (8 * j : Nat) ∧ OBs h.size 5 g (F 3) ((lowS n).take j))
    (fun F _ => 64 - (vi (F 4)).toNat) rfl ⟨Bel.refl _ _, rfl, 0, by omega, rfl, OBs.nil _ _ _⟩ ?_
  rintro F g ⟨hg, f0, j, hj, f4, ho⟩
  have hgs := hg.size
  by_cases hlt : j < 8
  · have hlt' : ((8 * j : Nat) : Int) < 64 := by omega
    have e1 : shrOp .i64 (n : Int) ((8 * j : Nat) : Int) = ((n / 256 ^ j : Nat) : Int) := by
      rw [shr_nat .i64 n (8 * j) (by show 8 * j ≤ 64; omega), Nat.shiftRight_eq_div_pow, Nat.pow_mul]
    have e2 : ((n / 256 ^ j : Nat) : Int) % 256 = ((n / 256 ^ j % 256 : Nat) : Int) := rfl
    have e3 : ¬ ((8 * j : Nat) : Int) < 0 := by omega
    have e4 : ((8 * j : Nat) : Int) + 8 = ((8 * (j + 1) : Nat) : Int) := by omega
    simp (config := {maxSteps := 2000000, implicitDefEqProofs := false}) only [go_sem, ↓reduceIte, Nat.reduceEqDiff, Nat.reduceAdd, Nat.reduceMul, Nat.reduceLeDiff, Nat.reduceLT, Nat.reduceSub, IntWalk.iteOmega, IntWalk.toNatUp, reduceCtorEq, Int.reduceLE, Int.reduceLT, Int.reduceToNat, Int.reduceNeg, f0, f4, hlt', e1, e2, e3]
    have hX : n / 256 ^ j % 256 < 256 := Nat.mod_lt _ (by decide)
    refine append_bytes (E := 5) (B := h.size) tsl29 Tryd.underlying29 tn5 tz5 tb5 (ho.push _) (by simp; omega) (Bs.one hX 1) (by simp [lowS_length]; omega) ?_
    intro v' h' ho' hb' _
    simp (config := {maxSteps := 2000000, implicitDefEqProofs := false}) only [go_sem, ↓reduceIte, Nat.reduceEqDiff, Nat.reduceAdd, Nat.reduceMul, Nat.reduceLeDiff, Nat.reduceLT, Nat.reduceSub, IntWalk.iteOmega, IntWalk.toNatUp, reduceCtorEq, Int.reduceLE, Int.reduceLT, Int.reduceToNat, Int.reduceNeg, f0, f4, e4]
    refine ⟨⟨(hg.addP hgs _).trans hb', f0, j + 1, hlt, rfl, ?_⟩, ?_⟩
    · rw [take_snoc _ j (by rw [lowS_length]; exact hlt)]
      have e : (lowS n)[j]'(by rw [lowS_length]; exact hlt) = n / 256 ^ j % 256 := by simp [lowS]
      rw [e]; exact ho'
    · simp only [vi, updo_some, ↓reduceIte, f4]; omega
  · have hge : ¬ ((8 * j : Nat) : Int) < 64 := by omega
    obtain rfl : j = 8 := by omega
    rw [List.take_of_length_le (by rw [lowS_length]; exact Nat.le_refl _)] at ho
    simp (config := {maxSteps := 2000000, implicitDefEqProofs := false}) only [go_sem, ↓reduceIte, Nat.reduceEqDiff, Nat.reduceAdd, Nat.reduceMul, Nat.reduceLeDiff, Nat.reduceLT, Nat.reduceSub, IntWalk.iteOmega, IntWalk.toNatUp, reduceCtorEq, Int.reduceLE, Int.reduceLT, Int.reduceToNat, Int.reduceNeg, f0, f4, hge]
    exact ⟨ho, hg⟩
theorem toSixteen_ok (T : World) (h : Hp) (v : Value) (l : List Nat) (s : Bs h v l) (hl : l.length ≤ 4000) :
    CallsH Tryd.prog T 203 #[v] h fun v' h' => OBs h.size 5 h' v' (padS l) ∧ Bel h.size h h' := by
  refine CallsH.of_code' (args := [_]) Tryd.func203 rfl rfl rfl rfl ?_
  simp (config := {maxSteps := 2000000, implicitDefEqProofs := false}) only [go_sem, ↓reduceIte, Nat.reduceEqDiff, Nat.reduceAdd, Nat.reduceMul, Nat.reduceLeDiff, Nat.reduceLT, Nat.reduceSub, IntWalk.iteOmega, IntWalk.toNatUp, reduceCtorEq, Int.reduceLE, Int.reduceLT, Int.reduceToNat, Int.reduceNeg]
  refine (joined_ok T _ _ _ l [] s (OBs.nil 0 5 h).bs (by simp; omega)).use ?_
  rintro v1 h1 ⟨o1, b1⟩
  rw [List.append_nil] at o1
  simp (config := {maxSteps := 2000000, implicitDefEqProofs := false}) only [go_sem, ↓reduceIte, Nat.reduceEqDiff, Nat.reduceAdd, Nat.reduceMul, Nat.reduceLeDiff, Nat.reduceLT, Nat.reduceSub, IntWalk.iteOmega, IntWalk.toNatUp, reduceCtorEq, Int.reduceLE, Int.reduceLT, Int.reduceToNat, Int.reduceNeg]
  refine VS.loop' (fun F g => Bel h.size h g ∧ ∃ j : Nat, j ≤ (16 - l.length % 16) % 16 ∧ OBs h.size 5 g (F 3) (l ++ List.replicate j 0) ∧ vlen (F 3) = l.length + j)
    (fun F _ => l.length + 16 - vlen (F 3)) rfl ⟨b1, 0, by omega, by rw [List.replicate_zero, List.append_nil]; exact o1, ?_⟩ ?_
  · obtain ⟨p, c, rfl, _⟩ := o1.open; rfl
  rintro F g ⟨hg, j, hj, ho, hv⟩
  have hgs := hg.size
  obtain ⟨p, c, f3, hc⟩ := ho.open
  have hlen : (l ++ List.replicate j 0).length = l.length + j := by simp
  rw [hlen] at f3
  rw [f3] at ho
  have e1 : ((l.length + j : Nat) : Int).tmod 16 = (((l.length + j) % 16 : Nat) : Int) := rfl
  by_cases hlt : j < (16 - l.length % 16) % 16
  · have e2 : ¬ (((l.length + j) % 16 : Nat) : Int) = 0 := by omega
    simp (config := {maxSteps := 2000000, implicitDefEqProofs := false}) only [go_sem, ↓reduceIte, Nat.reduceEqDiff, Nat.reduceAdd, Nat.reduceMul, Nat.reduceLeDiff, Nat.reduceLT, Nat.reduceSub, IntWalk.iteOmega, IntWalk.toNatUp, reduceCtorEq, Int.reduceLE, Int.reduceLT, Int.reduceToNat, Int.reduceNeg, f3, e1, e2]
    refine append_bytes (E := 5) (B := h.size) tsl29 Tryd.underlying29 tn5 tz5 tb5 (ho.push _) (by simp; omega) (Bs.one (show 0 < 256 by decide) 1) (by simp; omega) ?_
    intro v' h' ho' hb' _
    simp (config := {maxSteps := 2000000, implicitDefEqProofs := false}) only [go_sem, ↓reduceIte, Nat.reduceEqDiff, Nat.reduceAdd, Nat.reduceMul, Nat.reduceLeDiff, Nat.reduceLT, Nat.reduceSub, IntWalk.iteOmega, IntWalk.toNatUp, reduceCtorEq, Int.reduceLE, Int.reduceLT, Int.reduceToNat, Int.reduceNeg, f3]
    have e3 : l ++ List.replicate j 0 ++ [0] = l ++ List.replicate (j + 1) 0 := by rw [List.append_assoc, List.replicate_succ']
    rw [e3] at ho'
    have hv' : vlen v' = l.length + (j + 1) := by
      obtain ⟨p, c, rfl, _⟩ := ho'.open
      show (l ++ List.replicate (j + 1) 0).length = _
      simp
    refine ⟨⟨(hg.addP hgs _).trans hb', j + 1, hlt, ho', hv'⟩, ?_⟩
    show l.length + 16 - vlen v' < _
    rw [hv']
    show _ < l.length + 16 - (l.length + j)
    omega
  · have e2 : (((l.length + j) % 16 : Nat) : Int) = 0 := by omega
    obtain rfl : j = (16 - l.length % 16) % 16 := by omega
    simp (config := {maxSteps := 2000000, implicitDefEqProofs := false}) only [go_sem, ↓reduceIte, Nat.reduceEqDiff, Nat.reduceAdd, Nat.reduceMul, Nat.reduceLeDiff, Nat.reduceLT, Nat.reduceSub, IntWalk.iteOmega, IntWalk.toNatUp, reduceCtorEq, Int.reduceLE, Int.reduceLT, Int.reduceToNat, Int.reduceNeg, f3, e1, e2]
    exact ⟨ho, hg⟩
theorem lowS_eq {n : Nat} (hn : n < 16777216) : lowS n = [n % 256, n / 256 % 256, n / 65536 % 256, 0, 0, 0, 0, 0] := by
  have e3 : n / 256 ^ 3 = 0 := by omega
  have e4 : n / 256 ^ 4 = 0 := by omega
  have e5 : n / 256 ^ 5 = 0 := by omega
  have e6 : n / 256 ^ 6 = 0 := by omega
  have e7 : n / 256 ^ 7 = 0 := by omega
  show [n / 256 ^ 0 % 256, n / 256 ^ 1 % 256, n / 256 ^ 2 % 256, n / 256 ^ 3 % 256, n / 256 ^ 4 % 256, n / 256 ^ 5 % 256, n / 256 ^ 6 % 256, n / 256 ^ 7 % 256] = _
  rw [e3, e4, e5, e6, e7]
  simp
theorem eightLow_ok (T : World) (h : Hp) (n : Nat) (hn : n < 16777216) :
    CallsH Tryd.prog T 204 #[.int .i64 n] h fun v' h' => OBs h.size 5 h' v' (lowS n) ∧ Bel h.size h h' := by
  refine CallsH.of_code' (args := [_]) Tryd.func204 rfl rfl rfl rfl ?_
  have e1 : ((n : Nat) : Int).tmod 256 = ((n % 256 : Nat) : Int) := rfl
  have e2 : ((n : Nat) : Int).tdiv 256 = ((n / 256 : Nat) : Int) := rfl
  have e3 : ((n / 256 : Nat) : Int).tmod 256 = ((n / 256 % 256 : Nat) : Int) := rfl
  have e4 : ((n : Nat) : Int).tdiv 65536 = ((n / 65536 : Nat) : Int) := rfl
  have e5 : ((n / 65536 : Nat) : Int).tmod 256 = ((n / 65536 % 256 : Nat) : Int) := rfl
  have m1 : ((n % 256 : Nat) : Int) % 256 = ((n % 256 : Nat) : Int) := by omega
  have m2 : ((n / 256 % 256 : Nat) : Int) % 256 = ((n / 256 % 256 : Nat) : Int) := by omega
  have m3 : ((n / 65536 % 256 : Nat) : Int) % 256 = ((n / 65536 % 256 : Nat) : Int) := by omega
  rw [lowS_eq hn]
  simp (config := {maxSteps := 2000000, implicitDefEqProofs := false}) only [go_sem, ↓reduceIte, Nat.reduceEqDiff, Nat.reduceAdd, Nat.reduceMul, Nat.reduceLeDiff, Nat.reduceLT, Nat.reduceSub, IntWalk.iteOmega, IntWalk.toNatUp, reduceCtorEq, Int.reduceLE, Int.reduceLT, Int.reduceToNat, Int.reduceNeg, e1, e2, e3, e4, e5, m1, m2, m3]
  refine OBs.made (l := [n % 256, n / 256 % 256, n / 65536 % 256, 0, 0, 0, 0, 0]) (fun x hx => ?_) (Nat.le_refl _)
  simp only [List.mem_cons, List.not_mem_nil, or_false] at hx
  omega
theorem blockErr_fine {key nonce : List Nat} {k : Int} (hk : key.length = 32) (hn : nonce.length = 12) (h0 : 0 ≤ k) (h1 : k ≤ 1073741824) : blockErr key k nonce = 0 := by
  unfold blockErr
  rw [if_neg (by omega), if_neg (by omega)]
theorem blockS_length (key : List Nat) (k : Nat) (nonce : List Nat) : (blockS key k nonce).length = 64 := by simp [blockS, outB]
theorem sealData_le {known sealed : List Nat} (hk : known.length ≤ 256) (hs : sealed.length ≤ 2000) : (sealData known sealed).length ≤ 2400 := by
  unfold sealData
  have h1 := padS_le known
  have h2 := padS_le sealed
  simp only [List.length_append, lowS_length]; omega
theorem tagErr_fine {key data : List Nat} (hk : key.length = 32) (hd : data.length ≤ 4000) : tagErr key data = 0 := by
  unfold tagErr; rw [if_neg (by omega)]
set_option maxHeartbeats 1000000 in
theorem sealTagP_ok (T : World) (h : Hp) (v u kn sv : Value) (key nonce known sealed : List Nat) (sk : Bs h v key) (sn : Bs h u nonce) (sw : Bs h kn known) (ss : Bs h sv sealed) (hk : key.length = 32) (hn : nonce.length = 12) (hw : known.length ≤ 256) (hs : sealed.length ≤ 2000) (ck : Cap v) (cn : Cap u) :
    CallsH Tryd.prog T 183 #[v, u, kn, sv] h fun v' h' => OBs h.size 5 h' v' (sealTagS key nonce known sealed) ∧ Bel h.size h h' := by
  obtain ⟨pw, cw, rfl, _⟩ := sw.open
  obtain ⟨ps, cs, rfl, _⟩ := ss.open
  refine CallsH.of_code' (args := [_, _, _, _]) Tryd.func183 rfl rfl rfl rfl ?_
  simp (config := {maxSteps := 2000000, implicitDefEqProofs := false}) only [go_sem, ↓reduceIte, Nat.reduceEqDiff, Nat.reduceAdd, Nat.reduceMul, Nat.reduceLeDiff, Nat.reduceLT, Nat.reduceSub, IntWalk.iteOmega, IntWalk.toNatUp, reduceCtorEq, Int.reduceLE, Int.reduceLT, Int.reduceToNat, Int.reduceNeg]
  refine (block_ok T _ _ _ key nonce 0 sk sn ck cn).use ?_
  rintro _ h1 ⟨⟨w1, rfl, o1⟩, b1⟩
  have e0 := blockErr_fine (k := 0) hk hn (by decide) (by decide)
  rw [e0, if_pos rfl] at o1
  rw [e0]
  have o1 : OBs h.size 5 h1 w1 (blockS key 0 nonce) := o1
  have z1 := b1.size
  simp (config := {maxSteps := 2000000, implicitDefEqProofs := false}) only [go_sem, ↓reduceIte, Nat.reduceEqDiff, Nat.reduceAdd, Nat.reduceMul, Nat.reduceLeDiff, Nat.reduceLT, Nat.reduceSub, IntWalk.iteOmega, IntWalk.toNatUp, reduceCtorEq, Int.reduceLE, Int.reduceLT, Int.reduceToNat, Int.reduceNeg]
  refine (padded_ok T _ _ known (sw.bel b1) (by omega)).use ?_
  rintro v2 h2 ⟨o2, b2⟩
  have z2 := b2.size
  have B2 := b1.trans (b2.mono z1)
  simp (config := {maxSteps := 2000000, implicitDefEqProofs := false}) only [go_sem, ↓reduceIte, Nat.reduceEqDiff, Nat.reduceAdd, Nat.reduceMul, Nat.reduceLeDiff, Nat.reduceLT, Nat.reduceSub, IntWalk.iteOmega, IntWalk.toNatUp, reduceCtorEq, Int.reduceLE, Int.reduceLT, Int.reduceToNat, Int.reduceNeg]
  refine (padded_ok T _ _ sealed (ss.bel B2) (by omega)).use ?_
  rintro v3 h3 ⟨o3, b3⟩
  have z3 := b3.size
  have B3 := B2.trans (b3.mono (by omega))
  have l1 := padS_le known
  have l2 := padS_le sealed
  simp (config := {maxSteps := 2000000, implicitDefEqProofs := false}) only [go_sem, ↓reduceIte, Nat.reduceEqDiff, Nat.reduceAdd, Nat.reduceMul, Nat.reduceLeDiff, Nat.reduceLT, Nat.reduceSub, IntWalk.iteOmega, IntWalk.toNatUp, reduceCtorEq, Int.reduceLE, Int.reduceLT, Int.reduceToNat, Int.reduceNeg]
  refine append_bytes (E := 5) (B := h1.size) tsl29 Tryd.underlying29 tn5 tz5 tb5 (o2.bel b3 (Nat.le_refl _)) (by omega) o3.bs (by omega) ?_
  intro v4 h4 o4 b4 _
  have z4 := b4.size
  simp (config := {maxSteps := 2000000, implicitDefEqProofs := false}) only [go_sem, ↓reduceIte, Nat.reduceEqDiff, Nat.reduceAdd, Nat.reduceMul, Nat.reduceLeDiff, Nat.reduceLT, Nat.reduceSub, IntWalk.iteOmega, IntWalk.toNatUp, reduceCtorEq, Int.reduceLE, Int.reduceLT, Int.reduceToNat, Int.reduceNeg]
  refine (length_ok T _ known.length (by omega)).use ?_
  rintro v5 h5 ⟨o5, b5⟩
  have z5 := b5.size
  simp (config := {maxSteps := 2000000, implicitDefEqProofs := false}) only [go_sem, ↓reduceIte, Nat.reduceEqDiff, Nat.reduceAdd, Nat.reduceMul, Nat.reduceLeDiff, Nat.reduceLT, Nat.reduceSub, IntWalk.iteOmega, IntWalk.toNatUp, reduceCtorEq, Int.reduceLE, Int.reduceLT, Int.reduceToNat, Int.reduceNeg]
  refine append_bytes (E := 5) (B := h1.size) tsl29 Tryd.underlying29 tn5 tz5 tb5 (o4.bel b5 (Nat.le_refl _)) (by omega) o5.bs (by simp only [List.length_append, lowS_length]; omega) ?_
  intro v6 h6 o6 b6 _
  have z6 := b6.size
  simp (config := {maxSteps := 2000000, implicitDefEqProofs := false}) only [go_sem, ↓reduceIte, Nat.reduceEqDiff, Nat.reduceAdd, Nat.reduceMul, Nat.reduceLeDiff, Nat.reduceLT, Nat.reduceSub, IntWalk.iteOmega, IntWalk.toNatUp, reduceCtorEq, Int.reduceLE, Int.reduceLT, Int.reduceToNat, Int.reduceNeg]
  refine (length_ok T _ sealed.length (by omega)).use ?_
  rintro v7 h7 ⟨o7, b7⟩
  have z7 := b7.size
  simp (config := {maxSteps := 2000000, implicitDefEqProofs := false}) only [go_sem, ↓reduceIte, Nat.reduceEqDiff, Nat.reduceAdd, Nat.reduceMul, Nat.reduceLeDiff, Nat.reduceLT, Nat.reduceSub, IntWalk.iteOmega, IntWalk.toNatUp, reduceCtorEq, Int.reduceLE, Int.reduceLT, Int.reduceToNat, Int.reduceNeg]
  refine append_bytes (E := 5) (B := h1.size) tsl29 Tryd.underlying29 tn5 tz5 tb5 (o6.bel b7 (Nat.le_refl _)) (by omega) o7.bs (by simp only [List.length_append, lowS_length]; omega) ?_
  intro v8 h8 o8 b8 _
  have z8 := b8.size
  have o8 : OBs h1.size 5 h8 v8 (sealData known sealed) := o8
  have B8 : Bel h1.size h1 h8 := (((((b2.trans (b3.mono z2)).trans b4).trans (b5.mono (by omega))).trans b6).trans (b7.mono (by omega))).trans b8
  have o1' := o1.bel B8 (Nat.le_refl _)
  have hlb := blockS_length key 0 nonce
  obtain ⟨pb, cb, rfl, hcb⟩ := o1'.open
  rw [hlb] at hcb o1' ⊢
  have s32 := Bs_take o1'.bs (m := 32) (by omega) cb
  have c32 : (32 : Int) ≤ cb := by omega
  have l32 : ((blockS key 0 nonce).take 32).length = 32 := by rw [List.length_take]; omega
  have hd := sealData_le hw hs
  simp (config := {maxSteps := 2000000, implicitDefEqProofs := false}) only [go_sem, ↓reduceIte, Nat.reduceEqDiff, Nat.reduceAdd, Nat.reduceMul, Nat.reduceLeDiff, Nat.reduceLT, Nat.reduceSub, IntWalk.iteOmega, IntWalk.toNatUp, reduceCtorEq, Int.reduceLE, Int.reduceLT, Int.reduceToNat, Int.reduceNeg, c32]
  refine (polyTagE_ok T _ _ _ ((blockS key 0 nonce).take 32) (sealData known sealed) s32 o8.bs (show 32 ≤ cb by omega) o8.cap).use ?_
  rintro _ h9 ⟨⟨w9, rfl, o9⟩, b9⟩
  have e9 := tagErr_fine (data := sealData known sealed) l32 (by omega)
  rw [e9, if_pos rfl] at o9
  rw [e9]
  simp (config := {maxSteps := 2000000, implicitDefEqProofs := false}) only [go_sem, ↓reduceIte, Nat.reduceEqDiff, Nat.reduceAdd, Nat.reduceMul, Nat.reduceLeDiff, Nat.reduceLT, Nat.reduceSub, IntWalk.iteOmega, IntWalk.toNatUp, reduceCtorEq, Int.reduceLE, Int.reduceLT, Int.reduceToNat, Int.reduceNeg]
  exact ⟨o9.mono (by omega), (b1.trans (B8.mono z1)).trans (b9.mono (by omega))⟩
set_option maxHeartbeats 1000000 in
theorem sealTagR_ok (T : World) (h : Hp) (v u kn sv : Value) (key nonce known sealed : List Nat) (sk : Bs h v key) (sn : Bs h u nonce) (sw : Bs h kn known) (ss : Bs h sv sealed) (hk : key.length = 32) (hn : nonce.length = 12) (hw : known.length ≤ 256) (hs : sealed.length ≤ 2000) :
    CallsH Tryd.prog T 186 #[v, u, kn, sv] h fun v' h' => OBs h.size 5 h' v' (sealTagS key nonce known sealed) ∧ Bel h.size h h' := by
  obtain ⟨pw, cw, rfl, _⟩ := sw.open
  obtain ⟨ps, cs, rfl, _⟩ := ss.open
  refine CallsH.of_code' (args := [_, _, _, _]) Tryd.func186 rfl rfl rfl rfl ?_
  simp (config := {maxSteps := 2000000, implicitDefEqProofs := false}) only [go_sem, ↓reduceIte, Nat.reduceEqDiff, Nat.reduceAdd, Nat.reduceMul, Nat.reduceLeDiff, Nat.reduceLT, Nat.reduceSub, IntWalk.iteOmega, IntWalk.toNatUp, reduceCtorEq, Int.reduceLE, Int.reduceLT, Int.reduceToNat, Int.reduceNeg]
  refine (streamBlock_ok T _ _ _ key nonce 0 sk sn hk hn (by decide)).use ?_
  rintro w1 h1 ⟨o1, b1⟩
  have z1 := b1.size
  simp (config := {maxSteps := 2000000, implicitDefEqProofs := false}) only [go_sem, ↓reduceIte, Nat.reduceEqDiff, Nat.reduceAdd, Nat.reduceMul, Nat.reduceLeDiff, Nat.reduceLT, Nat.reduceSub, IntWalk.iteOmega, IntWalk.toNatUp, reduceCtorEq, Int.reduceLE, Int.reduceLT, Int.reduceToNat, Int.reduceNeg]
  refine (toSixteen_ok T _ _ known (sw.bel b1) (by omega)).use ?_
  rintro v2 h2 ⟨o2, b2⟩
  have z2 := b2.size
  have B2 := b1.trans (b2.mono z1)
  simp (config := {maxSteps := 2000000, implicitDefEqProofs := false}) only [go_sem, ↓reduceIte, Nat.reduceEqDiff, Nat.reduceAdd, Nat.reduceMul, Nat.reduceLeDiff, Nat.reduceLT, Nat.reduceSub, IntWalk.iteOmega, IntWalk.toNatUp, reduceCtorEq, Int.reduceLE, Int.reduceLT, Int.reduceToNat, Int.reduceNeg]
  refine (toSixteen_ok T _ _ sealed (ss.bel B2) (by omega)).use ?_
  rintro v3 h3 ⟨o3, b3⟩
  have z3 := b3.size
  have l1 := padS_le known
  have l2 := padS_le sealed
  simp (config := {maxSteps := 2000000, implicitDefEqProofs := false}) only [go_sem, ↓reduceIte, Nat.reduceEqDiff, Nat.reduceAdd, Nat.reduceMul, Nat.reduceLeDiff, Nat.reduceLT, Nat.reduceSub, IntWalk.iteOmega, IntWalk.toNatUp, reduceCtorEq, Int.reduceLE, Int.reduceLT, Int.reduceToNat, Int.reduceNeg]
  refine (joined_ok T _ _ _ _ _ (o2.bel b3 (Nat.le_refl _)).bs o3.bs (by omega)).use ?_
  rintro v4 h4 ⟨o4, b4⟩
  have z4 := b4.size
  simp (config := {maxSteps := 2000000, implicitDefEqProofs := false}) only [go_sem, ↓reduceIte, Nat.reduceEqDiff, Nat.reduceAdd, Nat.reduceMul, Nat.reduceLeDiff, Nat.reduceLT, Nat.reduceSub, IntWalk.iteOmega, IntWalk.toNatUp, reduceCtorEq, Int.reduceLE, Int.reduceLT, Int.reduceToNat, Int.reduceNeg]
  refine (eightLow_ok T _ known.length (by omega)).use ?_
  rintro v5 h5 ⟨o5, b5⟩
  have z5 := b5.size
  simp (config := {maxSteps := 2000000, implicitDefEqProofs := false}) only [go_sem, ↓reduceIte, Nat.reduceEqDiff, Nat.reduceAdd, Nat.reduceMul, Nat.reduceLeDiff, Nat.reduceLT, Nat.reduceSub, IntWalk.iteOmega, IntWalk.toNatUp, reduceCtorEq, Int.reduceLE, Int.reduceLT, Int.reduceToNat, Int.reduceNeg]
  refine (eightLow_ok T _ sealed.length (by omega)).use ?_
  rintro v6 h6 ⟨o6, b6⟩
  have z6 := b6.size
  simp (config := {maxSteps := 2000000, implicitDefEqProofs := false}) only [go_sem, ↓reduceIte, Nat.reduceEqDiff, Nat.reduceAdd, Nat.reduceMul, Nat.reduceLeDiff, Nat.reduceLT, Nat.reduceSub, IntWalk.iteOmega, IntWalk.toNatUp, reduceCtorEq, Int.reduceLE, Int.reduceLT, Int.reduceToNat, Int.reduceNeg]
  refine (joined_ok T _ _ _ _ _ ((o4.bel b5 (Nat.le_refl _)).bel b6 (Nat.le_refl _)).bs (o5.bel b6 (Nat.le_refl _)).bs (by simp only [List.length_append, lowS_length]; omega)).use ?_
  rintro v7 h7 ⟨o7, b7⟩
  have z7 := b7.size
  simp (config := {maxSteps := 2000000, implicitDefEqProofs := false}) only [go_sem, ↓reduceIte, Nat.reduceEqDiff, Nat.reduceAdd, Nat.reduceMul, Nat.reduceLeDiff, Nat.reduceLT, Nat.reduceSub, IntWalk.iteOmega, IntWalk.toNatUp, reduceCtorEq, Int.reduceLE, Int.reduceLT, Int.reduceToNat, Int.reduceNeg]
  refine (joined_ok T _ _ _ _ _ o7.bs (o6.bel b7 (Nat.le_refl _)).bs (by simp only [List.length_append, lowS_length]; omega)).use ?_
  rintro v8 h8 ⟨o8, b8⟩
  have z8 := b8.size
  have o8 : OBs h7.size 5 h8 v8 (sealData known sealed) := o8
  have B8 : Bel h1.size h1 h8 := (((((b2.trans (b3.mono z2)).trans (b4.mono (by omega))).trans (b5.mono (by omega))).trans (b6.mono (by omega))).trans (b7.mono (by omega))).trans (b8.mono (by omega))
  have o1' := o1.bel B8 (Nat.le_refl _)
  have hlb := blockS_length key 0 nonce
  obtain ⟨pb, cb, rfl, hcb⟩ := o1'.open
  rw [hlb] at hcb o1' ⊢
  have s32 := Bs_take o1'.bs (m := 32) (by omega) cb
  have c32 : (32 : Int) ≤ cb := by omega
  have l32 : ((blockS key 0 nonce).take 32).length = 32 := by rw [List.length_take]; omega
  have hd := sealData_le hw hs
  simp (config := {maxSteps := 2000000, implicitDefEqProofs := false}) only [go_sem, ↓reduceIte, Nat.reduceEqDiff, Nat.reduceAdd, Nat.reduceMul, Nat.reduceLeDiff, Nat.reduceLT, Nat.reduceSub, IntWalk.iteOmega, IntWalk.toNatUp, reduceCtorEq, Int.reduceLE, Int.reduceLT, Int.reduceToNat, Int.reduceNeg, c32]
  refine (tagged_ok T _ _ _ ((blockS key 0 nonce).take 32) (sealData known sealed) s32 o8.bs l32 (by omega) (show ((blockS key 0 nonce).take 32).length ≤ cb by omega) o8.cap).use ?_
  rintro w9 h9 ⟨o9, b9⟩
  simp (config := {maxSteps := 2000000, implicitDefEqProofs := false}) only [go_sem, ↓reduceIte, Nat.reduceEqDiff, Nat.reduceAdd, Nat.reduceMul, Nat.reduceLeDiff, Nat.reduceLT, Nat.reduceSub, IntWalk.iteOmega, IntWalk.toNatUp, reduceCtorEq, Int.reduceLE, Int.reduceLT, Int.reduceToNat, Int.reduceNeg]
  exact ⟨o9.mono (by omega), (b1.trans (B8.mono z1)).trans (b9.mono (by omega))⟩
end Go.Proofs.YtnpacofabdgcdaaDoor
