/- One block of the digest: what the program computes; no condition but those in the statements. -/
import Derived.Test.YtnpacofabdgcdaaDoorTabs
import Derived.Test.YtnpacofabdgcdaaDoorW18
namespace Go.Proofs.YtnpacofabdgcdaaDoor
open Go Go.V
set_option linter.unusedSimpArgs false
set_option linter.unusedVariables false
set_option maxRecDepth 100000
theorem shaTurn_ok (T : World) (h : Hp) (x n : Nat) (hx : x < 4294967296) (hn : n ≤ 32) :
    CallsH Tryd.prog T 167 #[.int .u32 x, .int .i64 n] h fun v' h' => v' = .int .u32 (rr x n : Nat) ∧ h' = h := by
  refine CallsH.of_code' (args := [_, _]) Tryd.func167 rfl rfl rfl rfl ?_
  have e1 := shl_u32 x (32 - n) (by omega)
  have e2 := shr_u32 x n hn
  have e3 : (32 : Int) - n = ((32 - n : Nat) : Int) := by omega
  have e4 := or_u32 (x / 2 ^ n) (x * 2 ^ (32 - n) % 4294967296) (Nat.lt_of_le_of_lt (Nat.div_le_self _ _) hx) (by omega)
  have e5 : ¬ (n : Int) < 0 := by omega
  have e6 : ¬ ((32 - n : Nat) : Int) < 0 := by omega
  have e7 := rotl_or hx (show 32 - n ≤ 32 by omega)
  rw [show 32 - (32 - n) = n by omega, Nat.or_comm] at e7
  rw [e7] at e4
  unfold rr
  simp (config := {contextual := true, maxSteps := 2000000, implicitDefEqProofs := false}) only [go_sem, ↓reduceIte, Nat.reduceEqDiff, Nat.reduceAdd, Nat.reduceMul, Nat.reduceLeDiff, Nat.reduceLT, Nat.reduceSub, IntWalk.iteOmega, IntWalk.toNatUp, reduceCtorEq, Int.reduceLE, Int.reduceLT, Int.reduceToNat, Int.reduceNeg]
  refine VS.q mixed (by kernel_rfl) ?_
  simp (config := {contextual := true, maxSteps := 2000000, implicitDefEqProofs := false}) only [go_sem, ↓reduceIte, Nat.reduceEqDiff, Nat.reduceAdd, Nat.reduceMul, Nat.reduceLeDiff, Nat.reduceLT, Nat.reduceSub, IntWalk.iteOmega, IntWalk.toNatUp, reduceCtorEq, Int.reduceLE, Int.reduceLT, Int.reduceToNat, Int.reduceNeg, e3, e1, e2, e4, e5, e6]
theorem ore_u32 {a b c d : Nat} (ha : a < 256) (hb : b < 256) (hc : c < 256) (hd : d < 256) :
    bitOp .or .u32 (bitOp .or .u32 (bitOp .or .u32 (shlOp .u32 a 24) (shlOp .u32 b 16)) (shlOp .u32 c 8)) d = ((a * 16777216 + b * 65536 + c * 256 + d : Nat) : Int) := by
  have sb : ∀ {x k : Nat}, x < 256 → k ≤ 24 → shlOp .u32 (x : Int) (k : Int) = ((x * 2 ^ k : Nat) : Int) := by
    intro x k hx hk
    rw [shl_u32 x k (by omega), Nat.mod_eq_of_lt]
    have : 2 ^ k ≤ 2 ^ 24 := Nat.pow_le_pow_right (by omega) hk
    have h2 : x * 2 ^ k ≤ 255 * 2 ^ 24 := Nat.mul_le_mul (by omega) this
    omega
  have e1 : shlOp .u32 (a : Int) 24 = ((a * 16777216 : Nat) : Int) := sb (k := 24) ha (by omega)
  have e2 : shlOp .u32 (b : Int) 16 = ((b * 65536 : Nat) : Int) := sb (k := 16) hb (by omega)
  have e3 : shlOp .u32 (c : Int) 8 = ((c * 256 : Nat) : Int) := sb (k := 8) hc (by omega)
  have f1 : a * 16777216 ||| b * 65536 = a * 16777216 + b * 65536 := or_add (k := 24) (by omega) (by omega)
  have f2 : (a * 16777216 + b * 65536) ||| c * 256 = a * 16777216 + b * 65536 + c * 256 := or_add (k := 16) (by omega) (by omega)
  rw [e1, e2, e3, or_u32 _ _ (by omega) (by omega), f1, or_u32 _ _ (by omega) (by omega), f2, or_u32 _ _ (by omega) (by omega), or_add (k := 8) (by omega) (by omega)]
theorem fill_stepE (xs zs : List Nat) (i : Nat) (hi : i < xs.length) (hz : xs.length = zs.length) : (xs.take i ++ zs.drop i).set i (xs.getD i 0) = xs.take (i + 1) ++ zs.drop (i + 1) := by
  rw [List.getD_eq_getElem?_getD, List.getElem?_eq_getElem hi]
  exact fill_step xs zs i hi hz
/-- The words of a schedule, noughts behind them. -/
def schZ (b : List Nat) (i : Nat) : List Nat := schL b i ++ List.replicate (64 - i) 0
theorem schZ_length {b : List Nat} {i : Nat} (hi : i ≤ 64) : (schZ b i).length = 64 := by simp [schZ, schL_length]; omega
theorem schZ_getD {b : List Nat} {i j : Nat} (hj : j < i) : (schZ b i).getD j 0 = (schL b i).getD j 0 := by
  rw [schZ, List.getD_eq_getElem?_getD, List.getElem?_append_left (by rw [schL_length]; exact hj), ← List.getD_eq_getElem?_getD]
theorem schZ_set {b : List Nat} {i : Nat} (hi : i < 64) : (schZ b i).set i (schN b (schL b i)) = schZ b (i + 1) := by
  rw [schZ, List.set_append_right _ _ (by rw [schL_length]; exact Nat.le_refl _), schL_length, Nat.sub_self, show 64 - i = (64 - (i + 1)) + 1 by omega, List.replicate_succ, List.set_cons_zero, schZ, schL, List.append_assoc]
  rfl
theorem schZ_done (b : List Nat) : schZ b 64 = schL b 64 := by simp [schZ]
theorem schL_cell {b : List Nat} (hb : Byte b) {i j : Nat} : (schL b i).getD j 0 < 4294967296 := (schL_w32 hb i).getD j
/-- A block's digest: only the digest's own block turns, of what was there. -/
theorem shaBlock_ok (T : World) (h : Hp) (bd : Nat) (d : List Nat) (v : Value) (b : List Nat) (hd : d.length = 8) (wd : W32 d) (sb : Bs h v b) (hb : b.length = 64) (tk : Tab 2 wv kN h)
    (hx : h[bd]? = some (.cells (d.map wv ++ []).toArray 153)) (hg : 2 ≠ bd) :
    CallsH Tryd.prog T 120 #[.pointer (some ⟨bd, 0, none⟩), v] h fun v' h' => But (some bd) h h' ∧ h'[bd]? = some (.cells ((compW d b).map wv ++ []).toArray 153) := by
  obtain ⟨p, c, rfl, hc1⟩ := sb.opend
  obtain ⟨bb, ob, rfl, hbb, hcs⟩ := hc1 (by intro e; subst e; simp at hb)
  have hbt : Byte b := sb.byte
  refine CallsH.of_code' (args := [_, _]) Tryd.func120 rfl rfl rfl rfl ?_
  rw [hb]
  have hbd := lt_of_get hx
  have b0 : Bel h.size h (h.push (.cells (zrep 64 [Value.int .u32 0]).toArray 202)) := Bel.push (Nat.le_refl _) _
  have x0 : ∀ A : Array Value, A = ((schZ b 0).map wv).toArray → (h.push (.cells A 202))[h.size]? = some (.cells ((schZ b 0).map wv ++ []).toArray 202) := by
    rintro _ rfl; rw [List.append_nil]; exact get_push_last
  simp (config := {maxSteps := 2000000, implicitDefEqProofs := false}) only [go_sem, ↓reduceIte, Nat.reduceEqDiff, Nat.reduceAdd, Nat.reduceMul, Nat.reduceLeDiff, Nat.reduceLT, Nat.reduceSub, IntWalk.iteOmega, IntWalk.toNatUp, reduceCtorEq, Int.reduceLE, Int.reduceLT, Int.reduceToNat, Int.reduceNeg]
  refine VS.loop' (fun F g => Bel h.size h g ∧ F 0 = .pointer (some ⟨bd, 0, none⟩) ∧ F 1 = .slice (some ⟨bb, ob, none⟩) 64 c ∧ F 4 = .pointer (some ⟨h.size, 0, none⟩) ∧ ∃ i : Nat, i ≤ 64 ∧ F 16 = .int .i64 i ∧ g[h.size]? = some (.cells ((schZ b i).map wv ++ []).toArray 202))
    (fun F _ => 64 - (vi (F 16)).toNat) rfl ⟨b0, rfl, rfl, rfl, 0, by omega, rfl, by exact x0 _ (by rfl)⟩ ?_
  clear b0 x0
  rintro F g ⟨hgb, f0, f1, f4, i, hi, f16, hw⟩
  have hws := lt_of_get hw
  by_cases hlt : i < 64
  · have hlt' : (i : Int) < 64 := by omega
    have fin : ∀ X : Nat, X = schN b (schL b i) → wr1 g ⟨h.size, i, none⟩ (.int .u32 (X : Nat)) = some (g.setIfInBounds h.size (.cells ((schZ b (i + 1)).map wv ++ []).toArray 202)) := by
      intro X hX
      have := cells_set (f := wv) hw (i := i) (by rw [schZ_length hi]; exact hlt) X rfl
      rw [hX, schZ_set hlt] at this
      rw [hX]; exact this
    by_cases h16 : i < 16
    · have h16' : (i : Int) < 16 := by omega
      have g0 : ∀ j, j < 64 → hc g ⟨bb, ob + j, none⟩ = some (.int .u8 (b.getD j 0 : Nat)) := fun j hj => by rw [hgb.hc (by exact hbb)]; exact hcs j (by omega)
      have e0 := g0 (4 * i) (by omega)
      have e1 := g0 (4 * i + 1) (by omega)
      have e2 := g0 (4 * i + 2) (by omega)
      have e3 := g0 (4 * i + 3) (by omega)
      have y0 := getD_byte hbt (4 * i)
      have y1 := getD_byte hbt (4 * i + 1)
      have y2 := getD_byte hbt (4 * i + 2)
      have y3 := getD_byte hbt (4 * i + 3)
      have t0 : (4 * (i : Int)).toNat = 4 * i := by omega
      have t1 : (4 * (i : Int) + 1).toNat = 4 * i + 1 := by omega
      have t2 : (4 * (i : Int) + 2).toNat = 4 * i + 2 := by omega
      have t3 : (4 * (i : Int) + 3).toNat = 4 * i + 3 := by omega
      have eo := fun (_ : Unit) => ore_u32 y0 y1 y2 y3
      rw [show b.getD (4 * i) 0 * 16777216 + b.getD (4 * i + 1) 0 * 65536 + b.getD (4 * i + 2) 0 * 256 + b.getD (4 * i + 3) 0 = be4 b (4 * i) from rfl] at eo
      have m0 : ((b.getD (4 * i) 0 : Nat) : Int) % 4294967296 = (b.getD (4 * i) 0 : Nat) := by omega
      have m1 : ((b.getD (4 * i + 1) 0 : Nat) : Int) % 4294967296 = (b.getD (4 * i + 1) 0 : Nat) := by omega
      have m2 : ((b.getD (4 * i + 2) 0 : Nat) : Int) % 4294967296 = (b.getD (4 * i + 2) 0 : Nat) := by omega
      have m3 : ((b.getD (4 * i + 3) 0 : Nat) : Int) % 4294967296 = (b.getD (4 * i + 3) 0 : Nat) := by omega
      have cs := fin (be4 b (4 * i)) (by unfold schN; rw [schL_length, if_pos h16])
      simp (config := {maxSteps := 2000000, implicitDefEqProofs := false}) only [go_sem, ↓reduceIte, Nat.reduceEqDiff, Nat.reduceAdd, Nat.reduceMul, Nat.reduceLeDiff, Nat.reduceLT, Nat.reduceSub, IntWalk.iteOmega, IntWalk.toNatUp, reduceCtorEq, Int.reduceLE, Int.reduceLT, Int.reduceToNat, Int.reduceNeg, f0, f1, f4, f16, hlt', h16']
      refine VS.w (g.size) [35] (.q 0 (.q 1 (.q 2 (.q 3 (.q 4 (.q 5 (.q 6 (.q 7 (.q 8 (.q 9 (.q 10 (.q 11 (.q 12 (.q 13 (.q 14 (.q 15 (.q 16 (.q 17 (.q 18 (.q 19 (.q 20 (.q 21 (.q 22 (.q 23 (.q 24 (.q 25 (.q 26 (.q 27 (.q 28 (.q 29 (.q 30 (.q 31 (.q 32 (.q 33 (.q 34 (.w 35 .nil)))))))))))))))))))))))))))))))))))) mixed (by kernel_rfl) ?_
      have hbb2 : bb < g.size := Nat.lt_of_lt_of_le hbb hgb.size
      simp (config := {maxSteps := 2000000, implicitDefEqProofs := false}) only [go_sem, ↓reduceIte, Nat.reduceEqDiff, Nat.reduceAdd, Nat.reduceMul, Nat.reduceLeDiff, Nat.reduceLT, Nat.reduceSub, IntWalk.iteOmega, IntWalk.toNatUp, reduceCtorEq, Int.reduceLE, Int.reduceLT, Int.reduceToNat, Int.reduceNeg, f0, f1, f4, f16, e0, e1, e2, e3, t0, t1, t2, t3, m0, m1, m2, m3, eo (), hbb2, cs]
      refine ⟨⟨hgb.addSet (Nat.le_refl _) _, f0, f1, f4, i + 1, hlt, rfl, cells_new hw⟩, ?_⟩
      simp only [vi, updo_some, ↓reduceIte, f16]; omega
    · have h16' : ¬ (i : Int) < 16 := by omega
      have q1 := cells_get hw (i := i - 15) (by rw [schZ_length hi]; omega)
      have q2 := cells_get hw (i := i - 2) (by rw [schZ_length hi]; omega)
      have q3 := cells_get hw (i := i - 16) (by rw [schZ_length hi]; omega)
      have q4 := cells_get hw (i := i - 7) (by rw [schZ_length hi]; omega)
      rw [schZ_getD (by omega)] at q1 q2 q3 q4
      have eX : schN b (schL b i) = ((schL b i).getD (i - 16) 0 + sg0 ((schL b i).getD (i - 15) 0) + (schL b i).getD (i - 7) 0 + sg1 ((schL b i).getD (i - 2) 0)) % 4294967296 := by
        unfold schN; rw [schL_length, if_neg h16]
      have cs := fin (schN b (schL b i)) rfl
      have hA : (schL b i).getD (i - 15) 0 < 4294967296 := schL_cell hbt
      have hC : (schL b i).getD (i - 2) 0 < 4294967296 := schL_cell hbt
      rw [eX] at cs
      generalize (schL b i).getD (i - 15) 0 = A at *
      generalize (schL b i).getD (i - 2) 0 = C at *
      generalize (schL b i).getD (i - 16) 0 = E1 at *
      generalize (schL b i).getD (i - 7) 0 = E2 at *
      unfold wv at q1 q2 q3 q4
      have t1 : ((i : Int) - 15).toNat = i - 15 := by omega
      have t2 : ((i : Int) - 2).toNat = i - 2 := by omega
      have t3 : ((i : Int) - 16).toNat = i - 16 := by omega
      have t4 : ((i : Int) - 7).toNat = i - 7 := by omega
      have s1 : Unit → shrOp .u32 (A : Int) 3 = ((A / 8 : Nat) : Int) := fun _ => shr_u32 A 3 (by decide)
      have s2 : Unit → shrOp .u32 (C : Int) 10 = ((C / 1024 : Nat) : Int) := fun _ => shr_u32 C 10 (by decide)
      have o1 := fun (_ : Unit) => xor_u32 (rr A 7) (rr A 18) (rr_lt hA) (rr_lt hA)
      have o2 : Unit → bitOp .xor .u32 ((rr A 7 ^^^ rr A 18 : Nat) : Int) ((A / 8 : Nat) : Int) = ((sg0 A : Nat) : Int) := fun _ => xor_u32 _ _ (xor_lt32 (rr_lt hA) (rr_lt hA)) (div_lt32 hA)
      have o3 := fun (_ : Unit) => xor_u32 (rr C 17) (rr C 19) (rr_lt hC) (rr_lt hC)
      have o4 : Unit → bitOp .xor .u32 ((rr C 17 ^^^ rr C 19 : Nat) : Int) ((C / 1024 : Nat) : Int) = ((sg1 C : Nat) : Int) := fun _ => xor_u32 _ _ (xor_lt32 (rr_lt hC) (rr_lt hC)) (div_lt32 hC)
      generalize sg0 A = S0 at *
      generalize sg1 C = S1 at *
      have e5 : ((((E1 : Int) + (E2 : Int)) % 4294967296 + (S0 : Int)) % 4294967296 + (S1 : Int)) % 4294967296 = (((E1 + S0 + E2 + S1) % 4294967296 : Nat) : Int) := by clear cs fin; omega
      simp (config := {maxSteps := 2000000, implicitDefEqProofs := false}) only [go_sem, ↓reduceIte, Nat.reduceEqDiff, Nat.reduceAdd, Nat.reduceMul, Nat.reduceLeDiff, Nat.reduceLT, Nat.reduceSub, IntWalk.iteOmega, IntWalk.toNatUp, reduceCtorEq, Int.reduceLE, Int.reduceLT, Int.reduceToNat, Int.reduceNeg, f0, f1, f4, f16, hlt', h16']
      refine VS.q mixed (by kernel_rfl) ?_
      simp (config := {maxSteps := 2000000, implicitDefEqProofs := false}) only [go_sem, ↓reduceIte, Nat.reduceEqDiff, Nat.reduceAdd, Nat.reduceMul, Nat.reduceLeDiff, Nat.reduceLT, Nat.reduceSub, IntWalk.iteOmega, IntWalk.toNatUp, reduceCtorEq, Int.reduceLE, Int.reduceLT, Int.reduceToNat, Int.reduceNeg, f0, f1, f4, f16, q1, q2, t1, t2]
      refine VS.w (h.size + 1) [29] (.q 0 (.q 1 (.q 2 (.q 3 (.q 4 (.q 5 (.q 6 (.q 7 (.q 8 (.q 9 (.q 10 (.q 11 (.q 12 (.q 13 (.q 14 (.q 15 (.q 16 (.q 17 (.q 18 (.q 19 (.q 20 (.q 21 (.q 22 (.q 23 (.q 24 (.q 25 (.q 26 (.q 27 (.q 28 (.w 29 .nil)))))))))))))))))))))))))))))) mixed (by kernel_rfl) ?_
      simp (config := {maxSteps := 2000000, implicitDefEqProofs := false}) only [go_sem, ↓reduceIte, Nat.reduceEqDiff, Nat.reduceAdd, Nat.reduceMul, Nat.reduceLeDiff, Nat.reduceLT, Nat.reduceSub, IntWalk.iteOmega, IntWalk.toNatUp, reduceCtorEq, Int.reduceLE, Int.reduceLT, Int.reduceToNat, Int.reduceNeg, f0, f1, f4, f16, q3, q4, t3, t4, e5]
      refine stillCall (fun h => shaTurn_ok T h A 7 hA (by omega)) ?_
      simp (config := {maxSteps := 2000000, implicitDefEqProofs := false}) only [go_sem, ↓reduceIte, Nat.reduceEqDiff, Nat.reduceAdd, Nat.reduceMul, Nat.reduceLeDiff, Nat.reduceLT, Nat.reduceSub, IntWalk.iteOmega, IntWalk.toNatUp, reduceCtorEq, Int.reduceLE, Int.reduceLT, Int.reduceToNat, Int.reduceNeg, f0, f1, f4, f16, o1 (), o2 (), o3 (), o4 (), s1 (), s2 (), e5]
      refine stillCall (fun h => shaTurn_ok T h A 18 hA (by omega)) ?_
      simp (config := {maxSteps := 2000000, implicitDefEqProofs := false}) only [go_sem, ↓reduceIte, Nat.reduceEqDiff, Nat.reduceAdd, Nat.reduceMul, Nat.reduceLeDiff, Nat.reduceLT, Nat.reduceSub, IntWalk.iteOmega, IntWalk.toNatUp, reduceCtorEq, Int.reduceLE, Int.reduceLT, Int.reduceToNat, Int.reduceNeg, f0, f1, f4, f16, o1 (), o2 (), o3 (), o4 (), s1 (), s2 (), e5]
      refine stillCall (fun h => shaTurn_ok T h C 17 hC (by omega)) ?_
      simp (config := {maxSteps := 2000000, implicitDefEqProofs := false}) only [go_sem, ↓reduceIte, Nat.reduceEqDiff, Nat.reduceAdd, Nat.reduceMul, Nat.reduceLeDiff, Nat.reduceLT, Nat.reduceSub, IntWalk.iteOmega, IntWalk.toNatUp, reduceCtorEq, Int.reduceLE, Int.reduceLT, Int.reduceToNat, Int.reduceNeg, f0, f1, f4, f16, o1 (), o2 (), o3 (), o4 (), s1 (), s2 (), e5]
      refine stillCall (fun h => shaTurn_ok T h C 19 hC (by omega)) ?_
      simp (config := {maxSteps := 2000000, implicitDefEqProofs := false}) only [go_sem, ↓reduceIte, Nat.reduceEqDiff, Nat.reduceAdd, Nat.reduceMul, Nat.reduceLeDiff, Nat.reduceLT, Nat.reduceSub, IntWalk.iteOmega, IntWalk.toNatUp, reduceCtorEq, Int.reduceLE, Int.reduceLT, Int.reduceToNat, Int.reduceNeg, f0, f1, f4, f16, o1 (), o2 (), o3 (), o4 (), s1 (), s2 (), e5, cs]
      refine ⟨⟨hgb.addSet (Nat.le_refl _) _, f0, f1, f4, i + 1, hlt, rfl, cells_new hw⟩, ?_⟩
      simp only [vi, updo_some, ↓reduceIte, f16]; omega
  · have hge : ¬ (i : Int) < 64 := by omega
    obtain rfl : i = 64 := by omega
    rw [schZ_done] at hw
    have hxg := hgb.get hbd hx
    have r0 : rd g ⟨bd, 0, none⟩ 8 = some (d.map wv) := by rw [List.append_nil] at hxg; exact rd_last hxg (by simp [hd])
    have l8 : (d.map wv).length = 8 := by simp [hd]
    have one8 : (d.map wv).all oneC = true := by simp [wv, oneC]
    obtain ⟨DV, hDV⟩ : ∃ DV, DV = d.map wv := ⟨_, rfl⟩
    rw [← hDV] at r0 l8 one8
    have lp : lput [Value.int .u32 0, Value.int .u32 0, Value.int .u32 0, Value.int .u32 0, Value.int .u32 0, Value.int .u32 0, Value.int .u32 0, Value.int .u32 0] 0 DV = DV := lput_full l8
    simp (config := {maxSteps := 2000000, implicitDefEqProofs := false}) only [go_sem, ↓reduceIte, Nat.reduceEqDiff, Nat.reduceAdd, Nat.reduceMul, Nat.reduceLeDiff, Nat.reduceLT, Nat.reduceSub, IntWalk.iteOmega, IntWalk.toNatUp, reduceCtorEq, Int.reduceLE, Int.reduceLT, Int.reduceToNat, Int.reduceNeg, f0, f1, f4, f16, hge, r0, l8, one8, lp]
    rw [hDV]
    have hgs := hgb.size
    have hB : Bel h.size h (g.push (.cells (d.map wv).toArray 153)) := hgb.add _
    have hB2 : Bel g.size g (g.push (.cells (d.map wv).toArray 153)) := Bel.push (Nat.le_refl _) _
    have hv0 : (g.push (.cells (d.map wv).toArray 153))[g.size]? = some (.cells ((srnds b d 0).map wv ++ []).toArray 153) := by
      rw [List.append_nil]; exact get_push_last
    refine VS.loop' (fun F' g' => Bel g.size g g' ∧ F' 0 = .pointer (some ⟨bd, 0, none⟩) ∧ F' 4 = .pointer (some ⟨h.size, 0, none⟩) ∧ F' 8 = .pointer (some ⟨g.size, 0, none⟩) ∧ ∃ i : Nat, i ≤ 64 ∧ F' 97 = .int .i64 i ∧ g'[g.size]? = some (.cells ((srnds b d i).map wv ++ []).toArray 153))
      (fun F _ => 64 - (vi (F 97)).toNat) rfl ⟨hB2, f0, f4, rfl, 0, by omega, rfl, hv0⟩ ?_
    clear f0 f1 f4 f16 hge hi hlt hv0 hB hB2 r0 l8 one8 lp hDV DV F
    rintro F g2 ⟨hg2, f0, f4, f8, i, hi, f97, hv⟩
    have hv2 := lt_of_get hv
    obtain ⟨v8, w8⟩ := srnds_ok (b := b) hd wd i
    obtain ⟨a, b', c', d', e, f, g', k', hst⟩ := eight v8
    by_cases hlt : i < 64
    · have hlt' : (i : Int) < 64 := by omega
      have hres : srnds b d (i + 1) = [(upw e f g' k' (kN.getD i 0) ((schL b 64).getD i 0) + bg0 a + majw a b' c') % 4294967296, a, b', c', (d' + upw e f g' k' (kN.getD i 0) ((schL b 64).getD i 0)) % 4294967296, e, f, g'] := by
        rw [show srnds b d (i + 1) = srnd (srnds b d i) (kN.getD i 0) ((schL b 64).getD i 0) from rfl, hst]; rfl
      have hK : kN.getD i 0 < 4294967296 := kN_w32.getD i
      have hW : (schL b 64).getD i 0 < 4294967296 := (schL_w32 hbt 64).getD i
      have k1 : V.hc g2 ⟨2, i, none⟩ = some (.int .u32 (kN.getD i 0 : Nat)) := by
        rw [hg2.hc (by have := tk.1; show (2 : Nat) < g.size; omega), hgb.hc (by exact tk.1)]; exact tk.2 i hlt
      have w1 : V.hc g2 ⟨h.size, i, none⟩ = some (.int .u32 ((schL b 64).getD i 0 : Nat)) := by
        rw [hg2.hc (by exact hws)]; exact cells_get hw (by rw [schL_length]; exact hlt)
      rw [hst] at hv w8
      have n0 : V.hc g2 ⟨g.size, 0, none⟩ = some (.int .u32 (a : Nat)) := cells_get hv (i := 0) (by simp)
      have n1 : V.hc g2 ⟨g.size, 1, none⟩ = some (.int .u32 (b' : Nat)) := cells_get hv (i := 1) (by simp)
      have n2 : V.hc g2 ⟨g.size, 2, none⟩ = some (.int .u32 (c' : Nat)) := cells_get hv (i := 2) (by simp)
      have n3 : V.hc g2 ⟨g.size, 3, none⟩ = some (.int .u32 (d' : Nat)) := cells_get hv (i := 3) (by simp)
      have n4 : V.hc g2 ⟨g.size, 4, none⟩ = some (.int .u32 (e : Nat)) := cells_get hv (i := 4) (by simp)
      have n5 : V.hc g2 ⟨g.size, 5, none⟩ = some (.int .u32 (f : Nat)) := cells_get hv (i := 5) (by simp)
      have n6 : V.hc g2 ⟨g.size, 6, none⟩ = some (.int .u32 (g' : Nat)) := cells_get hv (i := 6) (by simp)
      have n7 : V.hc g2 ⟨g.size, 7, none⟩ = some (.int .u32 (k' : Nat)) := cells_get hv (i := 7) (by simp)
      have ha : a < 4294967296 := w8 a (by simp)
      have hb' : b' < 4294967296 := w8 b' (by simp)
      have hc' : c' < 4294967296 := w8 c' (by simp)
      have hd' : d' < 4294967296 := w8 d' (by simp)
      have he : e < 4294967296 := w8 e (by simp)
      have hf : f < 4294967296 := w8 f (by simp)
      have hg' : g' < 4294967296 := w8 g' (by simp)
      have hk' : k' < 4294967296 := w8 k' (by simp)
      generalize kN.getD i 0 = K at *
      generalize (schL b 64).getD i 0 = W at *
      have o1 := fun (_ : Unit) => xor_u32 (rr e 6) (rr e 11) (rr_lt he) (rr_lt he)
      have o2 : Unit → bitOp .xor .u32 ((rr e 6 ^^^ rr e 11 : Nat) : Int) ((rr e 25 : Nat) : Int) = ((bg1 e : Nat) : Int) := fun _ => xor_u32 _ _ (xor_lt32 (rr_lt he) (rr_lt he)) (rr_lt he)
      have o3 := fun (_ : Unit) => xor_u32 (rr a 2) (rr a 13) (rr_lt ha) (rr_lt ha)
      have o4 : Unit → bitOp .xor .u32 ((rr a 2 ^^^ rr a 13 : Nat) : Int) ((rr a 22 : Nat) : Int) = ((bg0 a : Nat) : Int) := fun _ => xor_u32 _ _ (xor_lt32 (rr_lt ha) (rr_lt ha)) (rr_lt ha)
      have c0 : Unit → (if IntKind.u32.signed = true then (-1 : Int) else IntKind.u32.max) = 4294967295 := fun _ => rfl
      have c1 := fun (_ : Unit) => and_u32 e f he hf
      have c2 := fun (_ : Unit) => not_u32 he
      have c3 := fun (_ : Unit) => and_u32 (4294967295 - e) g' (sub_lt32 e) hg'
      have c4 := fun (_ : Unit) => ch_u32 (f := f) he hg'
      have m1 := fun (_ : Unit) => and_u32 a b' ha hb'
      have m2 := fun (_ : Unit) => and_u32 a c' ha hc'
      have m3 := fun (_ : Unit) => and_u32 b' c' hb' hc'
      have m4 := fun (_ : Unit) => xor_u32 (a &&& b') (a &&& c') (and_lt32 ha) (and_lt32 ha)
      have m5 := fun (_ : Unit) => maj_u32 (c := c') ha hb'
      have eU : upw e f g' k' K W = (k' + bg1 e + chw e f g' + K + W) % 4294967296 := rfl
      generalize upw e f g' k' K W = U at *
      generalize bg1 e = S1 at *
      generalize bg0 a = S0 at *
      generalize chw e f g' = CH at *
      generalize majw a b' c' = MJ at *
      have e1 : Unit → (((((k' : Int) + (S1 : Int)) % 4294967296 + (CH : Int)) % 4294967296 + (K : Int)) % 4294967296 + (W : Int)) % 4294967296 = (U : Int) := fun _ => by omega
      have e2 : Unit → ((S0 : Int) + (MJ : Int)) % 4294967296 = (((S0 + MJ) % 4294967296 : Nat) : Int) := fun _ => by omega
      have e3 : Unit → ((U : Int) + (((S0 + MJ) % 4294967296 : Nat) : Int)) % 4294967296 = (((U + S0 + MJ) % 4294967296 : Nat) : Int) := fun _ => by omega
      have e4 : Unit → ((d' : Int) + (U : Int)) % 4294967296 = (((d' + U) % 4294967296 : Nat) : Int) := fun _ => by omega
      simp (config := {maxSteps := 2000000, implicitDefEqProofs := false}) only [go_sem, ↓reduceIte, Nat.reduceEqDiff, Nat.reduceAdd, Nat.reduceMul, Nat.reduceLeDiff, Nat.reduceLT, Nat.reduceSub, IntWalk.iteOmega, IntWalk.toNatUp, reduceCtorEq, Int.reduceLE, Int.reduceLT, Int.reduceToNat, Int.reduceNeg, f0, f4, f8, f97, hlt']
      refine VS.q mixed (by kernel_rfl) ?_
      simp (config := {maxSteps := 2000000, implicitDefEqProofs := false}) only [go_sem, ↓reduceIte, Nat.reduceEqDiff, Nat.reduceAdd, Nat.reduceMul, Nat.reduceLeDiff, Nat.reduceLT, Nat.reduceSub, IntWalk.iteOmega, IntWalk.toNatUp, reduceCtorEq, Int.reduceLE, Int.reduceLT, Int.reduceToNat, Int.reduceNeg, f0, f4, f8, f97, n0, n4]
      refine VS.q mixed (by kernel_rfl) ?_
      simp (config := {maxSteps := 2000000, implicitDefEqProofs := false}) only [go_sem, ↓reduceIte, Nat.reduceEqDiff, Nat.reduceAdd, Nat.reduceMul, Nat.reduceLeDiff, Nat.reduceLT, Nat.reduceSub, IntWalk.iteOmega, IntWalk.toNatUp, reduceCtorEq, Int.reduceLE, Int.reduceLT, Int.reduceToNat, Int.reduceNeg, f0, f4, f8, f97, n7, n4]
      refine stillCallQ (shaTurn_ok T _ e 6 he (by omega)) ?_
      simp (config := {maxSteps := 2000000, implicitDefEqProofs := false}) only [go_sem, ↓reduceIte, Nat.reduceEqDiff, Nat.reduceAdd, Nat.reduceMul, Nat.reduceLeDiff, Nat.reduceLT, Nat.reduceSub, IntWalk.iteOmega, IntWalk.toNatUp, reduceCtorEq, Int.reduceLE, Int.reduceLT, Int.reduceToNat, Int.reduceNeg, f8]
      refine stillCallQ (shaTurn_ok T _ e 11 he (by omega)) ?_
      simp (config := {maxSteps := 2000000, implicitDefEqProofs := false}) only [go_sem, ↓reduceIte, Nat.reduceEqDiff, Nat.reduceAdd, Nat.reduceMul, Nat.reduceLeDiff, Nat.reduceLT, Nat.reduceSub, IntWalk.iteOmega, IntWalk.toNatUp, reduceCtorEq, Int.reduceLE, Int.reduceLT, Int.reduceToNat, Int.reduceNeg, f8]
      refine stillCallQ (shaTurn_ok T _ e 25 he (by omega)) ?_
      simp (config := {maxSteps := 2000000, implicitDefEqProofs := false}) only [go_sem, ↓reduceIte, Nat.reduceEqDiff, Nat.reduceAdd, Nat.reduceMul, Nat.reduceLeDiff, Nat.reduceLT, Nat.reduceSub, IntWalk.iteOmega, IntWalk.toNatUp, reduceCtorEq, Int.reduceLE, Int.reduceLT, Int.reduceToNat, Int.reduceNeg, f4, f8, f97, hlt', o1 (), o2 (), n5, n6, c0 (), c1 (), c2 (), c3 (), c4 (), k1, w1, e1 ()]
      refine VS.mono (N := fun F' g' => g2 = g' ∧ F' 0 = .pointer (some ⟨bd, 0, none⟩) ∧ F' 4 = .pointer (some ⟨h.size, 0, none⟩) ∧ F' 8 = .pointer (some ⟨g.size, 0, none⟩) ∧ F' 97 = .int .i64 i ∧ F' 10 = .int .u32 (a : Nat) ∧ F' 11 = .int .u32 (e : Nat) ∧ F' 12 = .int .u32 (U : Nat) ∧ F' 13 = .int .u32 (((S0 + MJ) % 4294967296 : Nat) : Int)) ?_ ?_ (fun _ _ _ h => h) (fun _ _ h => h)
      · refine VS.q mixed (by kernel_rfl) ?_
        simp (config := {maxSteps := 2000000, implicitDefEqProofs := false}) only [go_sem, ↓reduceIte, Nat.reduceEqDiff, Nat.reduceAdd, Nat.reduceMul, Nat.reduceLeDiff, Nat.reduceLT, Nat.reduceSub, IntWalk.iteOmega, IntWalk.toNatUp, reduceCtorEq, Int.reduceLE, Int.reduceLT, Int.reduceToNat, Int.reduceNeg, f8]
        refine stillCallQ (shaTurn_ok T _ a 2 ha (by omega)) ?_
        simp (config := {maxSteps := 2000000, implicitDefEqProofs := false}) only [go_sem, ↓reduceIte, Nat.reduceEqDiff, Nat.reduceAdd, Nat.reduceMul, Nat.reduceLeDiff, Nat.reduceLT, Nat.reduceSub, IntWalk.iteOmega, IntWalk.toNatUp, reduceCtorEq, Int.reduceLE, Int.reduceLT, Int.reduceToNat, Int.reduceNeg, f8]
        refine stillCallQ (shaTurn_ok T _ a 13 ha (by omega)) ?_
        simp (config := {maxSteps := 2000000, implicitDefEqProofs := false}) only [go_sem, ↓reduceIte, Nat.reduceEqDiff, Nat.reduceAdd, Nat.reduceMul, Nat.reduceLeDiff, Nat.reduceLT, Nat.reduceSub, IntWalk.iteOmega, IntWalk.toNatUp, reduceCtorEq, Int.reduceLE, Int.reduceLT, Int.reduceToNat, Int.reduceNeg, f8]
        refine stillCallQ (shaTurn_ok T _ a 22 ha (by omega)) ?_
        simp (config := {maxSteps := 2000000, implicitDefEqProofs := false}) only [go_sem, ↓reduceIte, Nat.reduceEqDiff, Nat.reduceAdd, Nat.reduceMul, Nat.reduceLeDiff, Nat.reduceLT, Nat.reduceSub, IntWalk.iteOmega, IntWalk.toNatUp, reduceCtorEq, Int.reduceLE, Int.reduceLT, Int.reduceToNat, Int.reduceNeg, f0, f4, f8, f97, o3 (), o4 (), n1, n2, m1 (), m2 (), m3 (), m4 (), m5 (), e2 ()]
      clear f0 f4 f8 f97 F
      rintro F _ ⟨rfl, f0, f4, f8, f97, f10, f11, f12, f13⟩
      have hvE : g2[g.size]? = some (.cells [Value.int .u32 a, .int .u32 b', .int .u32 c', .int .u32 d', .int .u32 e, .int .u32 f, .int .u32 g', .int .u32 k'].toArray 153) := hv
      have y2 := wr_get hvE 0
      obtain ⟨xU, hxU⟩ : ∃ x : Int, x = (U : Int) := ⟨_, rfl⟩
      obtain ⟨xD, hxD⟩ : ∃ x : Int, x = (((S0 + MJ) % 4294967296 : Nat) : Int) := ⟨_, rfl⟩
      obtain ⟨x0, hx0⟩ : ∃ x : Int, x = (((U + S0 + MJ) % 4294967296 : Nat) : Int) := ⟨_, rfl⟩
      obtain ⟨x4, hx4⟩ : ∃ x : Int, x = (((d' + U) % 4294967296 : Nat) : Int) := ⟨_, rfl⟩
      have E3 : Unit → (xU + xD) % 4294967296 = x0 := fun _ => by rw [hxU, hxD, hx0]; exact e3 ()
      have E4 : Unit → ((d' : Int) + xU) % 4294967296 = x4 := fun _ => by rw [hxU, hx4]; exact e4 ()
      rw [← hxU] at f12
      rw [← hxD] at f13
      simp (config := {maxSteps := 2000000, implicitDefEqProofs := false}) only [go_sem, ↓reduceIte, Nat.reduceEqDiff, Nat.reduceAdd, Nat.reduceMul, Nat.reduceLeDiff, Nat.reduceLT, Nat.reduceSub, IntWalk.iteOmega, IntWalk.toNatUp, reduceCtorEq, Int.reduceLE, Int.reduceLT, Int.reduceToNat, Int.reduceNeg, f0, f4, f8, f97, f10, f11, f12, f13, n1, n2, n3, n5, n6, E3 (), E4 (), y2]
      refine ⟨⟨hg2.addSet (Nat.le_refl _) _, f0, f4, f8, i + 1, hlt, rfl, ?_⟩, ?_⟩
      · rw [hres, hx0, hx4]; exact cells_new hv
      · simp only [vi, updo_some, ↓reduceIte, f97]; omega
    · have hge : ¬ (i : Int) < 64 := by omega
      obtain rfl : i = 64 := by omega
      have r0 : rd g2 ⟨g.size, 0, none⟩ 8 = some ((srnds b d 64).map wv) := by rw [List.append_nil] at hv; exact rd_last hv (by simp [v8])
      have hB : But (some bd) h g2 := by
        have q1 := hgb.trans (hg2.mono hgb.size)
        exact ⟨q1.size, fun k hk _ => q1.block k hk⟩
      have hxg : g2[bd]? = some (.cells (((addW d (srnds b d 64)).take 0 ++ d.drop 0).map wv ++ []).toArray 153) := by
        rw [List.take_zero, List.drop_zero, List.nil_append]
        exact (hgb.trans (hg2.mono hgb.size)).get hbd hx
      have hal := addW_length hd v8
      simp (config := {maxSteps := 2000000, implicitDefEqProofs := false}) only [go_sem, ↓reduceIte, Nat.reduceEqDiff, Nat.reduceAdd, Nat.reduceMul, Nat.reduceLeDiff, Nat.reduceLT, Nat.reduceSub, IntWalk.iteOmega, IntWalk.toNatUp, reduceCtorEq, Int.reduceLE, Int.reduceLT, Int.reduceToNat, Int.reduceNeg, f0, f8, f97, hge, r0]
      refine VS.loop' (fun F' g' => But (some bd) h g' ∧ F' 0 = .pointer (some ⟨bd, 0, none⟩) ∧ F' 177 = .agg ((srnds b d 64).map wv).toArray ∧ ∃ i : Nat, i ≤ 8 ∧ F' 178 = .int .i64 i ∧ g'[bd]? = some (.cells (((addW d (srnds b d 64)).take i ++ d.drop i).map wv ++ []).toArray 153))
        (fun F _ => 8 - (vi (F 178)).toNat) rfl ⟨hB, f0, rfl, 0, by omega, rfl, hxg⟩ ?_
      clear f0 f4 f8 f97 hge hi hlt hv hxg hB r0 F
      rintro F g3 ⟨hB, f0, f177, i, hi, f178, hxg⟩
      have hbd3 := lt_of_get hxg
      have hfl : ((addW d (srnds b d 64)).take i ++ d.drop i).length = 8 := by rw [fill_length _ _ _ (by omega) (by omega), hal]
      by_cases hlt : i < 8
      · have hlt' : (i : Int) < 8 := by omega
        have n1 : nth ((srnds b d 64).map wv) i = some (.int .u32 ((srnds b d 64).getD i 0 : Nat)) := by
          rw [nth_eq, List.getElem?_map, List.getD_eq_getElem?_getD, List.getElem?_eq_getElem (by omega)]; rfl
        have q1 := cells_get hxg (i := i) (by omega)
        have e0 : ((addW d (srnds b d 64)).take i ++ d.drop i).getD i 0 = d.getD i 0 := by
          rw [List.getD_eq_getElem?_getD, List.getElem?_append_right (by rw [List.length_take]; omega), List.length_take, Nat.min_eq_left (by omega), Nat.sub_self, List.getElem?_drop, Nat.add_zero, ← List.getD_eq_getElem?_getD]
        rw [e0] at q1
        unfold wv at q1
        have eX := addW_getD hd v8 hlt
        have cs := cells_set (f := wv) hxg (i := i) (by omega) ((addW d (srnds b d 64)).getD i 0) rfl
        rw [fill_stepE _ _ i (by omega) (by omega)] at cs
        have cs' : wr1 g3 ⟨bd, i, none⟩ (.int .u32 (((addW d (srnds b d 64)).getD i 0 : Nat) : Int)) = _ := cs
        rw [eX] at cs'
        generalize d.getD i 0 = D at *
        generalize (srnds b d 64).getD i 0 = V at *
        have e1 : ((D : Int) + (V : Int)) % 4294967296 = (((D + V) % 4294967296 : Nat) : Int) := by omega
        simp (config := {maxSteps := 2000000, implicitDefEqProofs := false}) only [go_sem, ↓reduceIte, Nat.reduceEqDiff, Nat.reduceAdd, Nat.reduceMul, Nat.reduceLeDiff, Nat.reduceLT, Nat.reduceSub, IntWalk.iteOmega, IntWalk.toNatUp, reduceCtorEq, Int.reduceLE, Int.reduceLT, Int.reduceToNat, Int.reduceNeg, f177, f178, hlt', n1]
        refine VS.w (g3.size) [9] (.q 0 (.q 1 (.q 2 (.q 3 (.q 4 (.q 5 (.q 6 (.q 7 (.q 8 (.w 9 .nil)))))))))) mixed (by kernel_rfl) ?_
        simp (config := {maxSteps := 2000000, implicitDefEqProofs := false}) only [go_sem, ↓reduceIte, Nat.reduceEqDiff, Nat.reduceAdd, Nat.reduceMul, Nat.reduceLeDiff, Nat.reduceLT, Nat.reduceSub, IntWalk.iteOmega, IntWalk.toNatUp, reduceCtorEq, Int.reduceLE, Int.reduceLT, Int.reduceToNat, Int.reduceNeg, f0, f177, f178, q1, e1, hbd3, cs', hlt']
        refine ⟨⟨?_, f0, f177, i + 1, hlt, rfl, cells_new hxg⟩, ?_⟩
        · exact ⟨by rw [Array.size_setIfInBounds]; exact hB.size, fun k hk hne => by rw [Array.getElem?_setIfInBounds, if_neg (by intro e; exact hne (by rw [e])), hB.block k hk hne]⟩
        · simp only [vi, updo_some, ↓reduceIte, f178]; omega
      · have hge : ¬ (i : Int) < 8 := by omega
        obtain rfl : i = 8 := by omega
        have e9 : (addW d (srnds b d 64)).take 8 ++ d.drop 8 = compW d b := by
          rw [List.take_of_length_le (by omega), List.drop_of_length_le (by omega), List.append_nil]; rfl
        rw [e9] at hxg
        simp (config := {maxSteps := 2000000, implicitDefEqProofs := false}) only [go_sem, ↓reduceIte, Nat.reduceEqDiff, Nat.reduceAdd, Nat.reduceMul, Nat.reduceLeDiff, Nat.reduceLT, Nat.reduceSub, IntWalk.iteOmega, IntWalk.toNatUp, reduceCtorEq, Int.reduceLE, Int.reduceLT, Int.reduceToNat, Int.reduceNeg, f178, hge]
        exact ⟨hB, hxg⟩
end Go.Proofs.YtnpacofabdgcdaaDoor
