/- Words of 32 bits: turned, as the program and the document do; no condition but those in the statements. -/
import Derived.Test.YtnpacofabdgcdaaDoorBase
import Derived.Test.YtnpacofabdgcdaaDoorW11
namespace Go.Proofs.YtnpacofabdgcdaaDoor
open Go Go.V
set_option linter.unusedSimpArgs false
set_option linter.unusedVariables false
set_option maxRecDepth 100000
/-- A word, turned to the left. -/
def rotl (x n : Nat) : Nat := x * 2 ^ n % 4294967296 + x / 2 ^ (32 - n)
theorem pow_both {n : Nat} (hn : n ≤ 32) : 2 ^ (32 - n) * 2 ^ n = 4294967296 := by
  rw [← Nat.pow_add, show 32 - n + n = 32 by omega]
theorem rotl_lt {x n : Nat} (hx : x < 4294967296) (hn : n ≤ 32) : rotl x n < 4294967296 := by
  unfold rotl
  have h1 : x * 2 ^ n % 4294967296 = (x % 2 ^ (32 - n)) * 2 ^ n := by
    rw [← pow_both hn, Nat.mul_mod_mul_right]
  have h2 : x / 2 ^ (32 - n) < 2 ^ n := by
    rw [Nat.div_lt_iff_lt_mul (Nat.pow_pos (by omega)), ← Nat.pow_add, show n + (32 - n) = 32 by omega]; exact hx
  have h3 : x % 2 ^ (32 - n) < 2 ^ (32 - n) := Nat.mod_lt _ (Nat.pow_pos (by omega))
  rw [h1]
  have h4 : (x % 2 ^ (32 - n) + 1) * 2 ^ n ≤ 2 ^ (32 - n) * 2 ^ n := Nat.mul_le_mul_right _ h3
  rw [← Nat.pow_add, show 32 - n + n = 32 by omega, Nat.add_mul] at h4
  omega
theorem rotl_or {x n : Nat} (hx : x < 4294967296) (hn : n ≤ 32) : x * 2 ^ n % 4294967296 ||| x / 2 ^ (32 - n) = rotl x n := by
  unfold rotl
  refine or_add (k := n) ?_ ?_
  · rw [Nat.div_lt_iff_lt_mul (Nat.pow_pos (by omega)), ← Nat.pow_add, show n + (32 - n) = 32 by omega]; exact hx
  · rw [← pow_both hn, Nat.mul_mod_mul_right, Nat.mul_mod_left]
theorem shl_u32 (x n : Nat) (hn : n ≤ 32) : shlOp .u32 (x : Int) (n : Int) = ((x * 2 ^ n % 4294967296 : Nat) : Int) := by
  rw [shl_nat .u32 x n (by show n ≤ 32; omega), wrap_u32_mod]; rfl
theorem shr_u32 (x n : Nat) (hn : n ≤ 32) : shrOp .u32 (x : Int) (n : Int) = ((x / 2 ^ n : Nat) : Int) := by
  rw [shr_nat .u32 x n (by show n ≤ 32; omega), Nat.shiftRight_eq_div_pow]
theorem chaTurn_ok (T : World) (h : Hp) (x n : Nat) (hx : x < 4294967296) (hn : n ≤ 32) :
    CallsH Tryd.prog T 242 #[.int .u32 x, .int .i64 n] h fun v' h' => v' = .int .u32 (rotl x n : Nat) ∧ h' = h := by
  refine CallsH.of_code' (args := [_, _]) Tryd.func242 rfl rfl rfl rfl ?_
  have e1 := shl_u32 x n hn
  have e2 := shr_u32 x (32 - n) (by omega)
  have e3 : (32 : Int) - n = ((32 - n : Nat) : Int) := by omega
  have e4 := or_u32 (x * 2 ^ n % 4294967296) (x / 2 ^ (32 - n)) (by omega) (Nat.lt_of_le_of_lt (Nat.div_le_self _ _) hx)
  rw [rotl_or hx hn] at e4
  have e5 : ¬ (n : Int) < 0 := by omega
  have e6 : ¬ ((32 - n : Nat) : Int) < 0 := by omega
  simp (config := {contextual := true, maxSteps := 2000000, implicitDefEqProofs := false}) only [go_sem, ↓reduceIte, Nat.reduceEqDiff, Nat.reduceAdd, Nat.reduceMul, Nat.reduceLeDiff, Nat.reduceLT, Nat.reduceSub, IntWalk.iteOmega, IntWalk.toNatUp, reduceCtorEq, Int.reduceLE, Int.reduceLT, Int.reduceToNat, Int.reduceNeg]
  refine VS.q mixed (by kernel_rfl) ?_
  simp (config := {contextual := true, maxSteps := 2000000, implicitDefEqProofs := false}) only [go_sem, ↓reduceIte, Nat.reduceEqDiff, Nat.reduceAdd, Nat.reduceMul, Nat.reduceLeDiff, Nat.reduceLT, Nat.reduceSub, IntWalk.iteOmega, IntWalk.toNatUp, reduceCtorEq, Int.reduceLE, Int.reduceLT, Int.reduceToNat, Int.reduceNeg, e3, e1, e2, e4, e5, e6]
theorem power_ok (T : World) (h : Hp) (n : Nat) (hn : n ≤ 62) : CallsH Tryd.prog T 192 #[.int .i64 n] h fun v' h' => v' = .int .i64 (2 ^ n : Nat) ∧ h' = h := by
  refine CallsH.of_code' (args := [_]) Tryd.func192 rfl rfl rfl rfl ?_
  simp (config := {contextual := true, maxSteps := 2000000, implicitDefEqProofs := false}) only [go_sem, ↓reduceIte, Nat.reduceEqDiff, Nat.reduceAdd, Nat.reduceMul, Nat.reduceLeDiff, Nat.reduceLT, Nat.reduceSub, IntWalk.iteOmega, IntWalk.toNatUp, reduceCtorEq, Int.reduceLE, Int.reduceLT, Int.reduceToNat, Int.reduceNeg]
  refine VS.loop' (fun F g => g = h ∧ F 0 = .int .i64 n ∧ ∃ i : Nat, i ≤ n ∧ F 4 = .int .i64 i ∧ F 3 = .int .i64 (2 ^ i : Nat))
    (fun F _ => n - (vi (F 4)).toNat) rfl ⟨rfl, rfl, 0, by omega, rfl, rfl⟩ ?_
  rintro F g ⟨rfl, f0, i, hi, f4, f3⟩
  by_cases hlt : i < n
  · have hlt' : (i : Int) < n := by omega
    have hp : 2 ^ (i + 1) ≤ 2 ^ 62 := Nat.pow_le_pow_right (by omega) (by omega)
    have e1 : 2 * ((2 ^ i : Nat) : Int) = ((2 ^ (i + 1) : Nat) : Int) := by rw [Nat.pow_succ, Nat.mul_comm]; exact (Int.natCast_mul 2 (2 ^ i)).symm
    have hp1 : ((2 ^ (i + 1) : Nat) : Int) ≤ 4611686018427387904 := by
      have : (2 : Nat) ^ 62 = 4611686018427387904 := by decide
      omega
    have hp0 : 0 ≤ ((2 ^ (i + 1) : Nat) : Int) := Int.natCast_nonneg _
    obtain ⟨A, hA⟩ : ∃ A : Int, A = ((2 ^ (i + 1) : Nat) : Int) := ⟨_, rfl⟩
    rw [← hA] at e1 hp1 hp0
    simp (config := {contextual := true, maxSteps := 2000000, implicitDefEqProofs := false}) only [go_sem, ↓reduceIte, Nat.reduceEqDiff, Nat.reduceAdd, Nat.reduceMul, Nat.reduceLeDiff, Nat.reduceLT, Nat.reduceSub, IntWalk.iteOmega, IntWalk.toNatUp, reduceCtorEq, Int.reduceLE, Int.reduceLT, Int.reduceToNat, Int.reduceNeg, f0, f4, f3, hlt', e1]
    refine ⟨⟨rfl, f0, i + 1, hlt, rfl, by rw [← hA]; rfl⟩, ?_⟩
    simp only [vi, updo_some, ↓reduceIte, f4]; omega
  · have hge : ¬ (i : Int) < n := by omega
    obtain rfl : i = n := by omega
    simp (config := {contextual := true, maxSteps := 2000000, implicitDefEqProofs := false}) only [go_sem, ↓reduceIte, Nat.reduceEqDiff, Nat.reduceAdd, Nat.reduceMul, Nat.reduceLeDiff, Nat.reduceLT, Nat.reduceSub, IntWalk.iteOmega, IntWalk.toNatUp, reduceCtorEq, Int.reduceLE, Int.reduceLT, Int.reduceToNat, Int.reduceNeg, f0, f4, f3, hge]
theorem word32_ok (T : World) (h : Hp) (x : Nat) : CallsH Tryd.prog T 171 #[.int .i64 x] h fun v' h' => v' = .int .i64 (x % 4294967296 : Nat) ∧ h' = h := by
  refine CallsH.of_code' (args := [_]) Tryd.func171 rfl rfl rfl rfl ?_
  have e1 : (x : Int).tmod 4294967296 = ((x % 4294967296 : Nat) : Int) := rfl
  simp (config := {contextual := true, maxSteps := 2000000, implicitDefEqProofs := false}) only [go_sem, ↓reduceIte, Nat.reduceEqDiff, Nat.reduceAdd, Nat.reduceMul, Nat.reduceLeDiff, Nat.reduceLT, Nat.reduceSub, IntWalk.iteOmega, IntWalk.toNatUp, reduceCtorEq, Int.reduceLE, Int.reduceLT, Int.reduceToNat, Int.reduceNeg, e1]
theorem turned_ok (T : World) (h : Hp) (x n : Nat) (hx : x < 4294967296) (hn : n ≤ 32) :
    CallsH Tryd.prog T 170 #[.int .i64 x, .int .i64 n] h fun v' h' => v' = .int .i64 (rotl x (32 - n) : Nat) ∧ h' = h := by
  refine CallsH.of_code' (args := [_, _]) Tryd.func170 rfl rfl rfl rfl ?_
  simp (config := {contextual := true, maxSteps := 2000000, implicitDefEqProofs := false}) only [go_sem, ↓reduceIte, Nat.reduceEqDiff, Nat.reduceAdd, Nat.reduceMul, Nat.reduceLeDiff, Nat.reduceLT, Nat.reduceSub, IntWalk.iteOmega, IntWalk.toNatUp, reduceCtorEq, Int.reduceLE, Int.reduceLT, Int.reduceToNat, Int.reduceNeg]
  refine (power_ok T h n (by omega)).pure ?_
  simp (config := {contextual := true, maxSteps := 2000000, implicitDefEqProofs := false}) only [go_sem, ↓reduceIte, Nat.reduceEqDiff, Nat.reduceAdd, Nat.reduceMul, Nat.reduceLeDiff, Nat.reduceLT, Nat.reduceSub, IntWalk.iteOmega, IntWalk.toNatUp, reduceCtorEq, Int.reduceLE, Int.reduceLT, Int.reduceToNat, Int.reduceNeg]
  refine VS.w (0) [] (.q 0 (.q 1 (.q 2 (.q 3 (.q 4 (.q 5 (.q 6 (.q 7 (.s 8 (.q 9 (.q 10 (.q 11 .nil)))))))))))) mixed (by kernel_rfl) ?_
  have e3 : (32 : Int) - n = ((32 - n : Nat) : Int) := by omega
  have er : rotl x (32 - n) = x / 2 ^ n + x % 2 ^ n * 2 ^ (32 - n) := by
    unfold rotl
    rw [← pow_both hn, Nat.mul_comm (2 ^ (32 - n)), Nat.mul_mod_mul_right, show 32 - (32 - n) = n by omega, Nat.add_comm]
  have hlt := rotl_lt hx (show 32 - n ≤ 32 by omega)
  rw [er] at hlt ⊢
  have hpos : 0 < 2 ^ n := Nat.pow_pos (by omega)
  have hq := power_ok T h (32 - n) (by omega)
  generalize 2 ^ n = A at *
  generalize 2 ^ (32 - n) = B at *
  have d0 : ¬ (A : Int) = 0 := by omega
  have d1 : (x : Int).tdiv (A : Int) = ((x / A : Nat) : Int) := rfl
  have d2 : (x : Int).tmod (A : Int) = ((x % A : Nat) : Int) := rfl
  have d3 : ((x % A : Nat) : Int) * (B : Int) = ((x % A * B : Nat) : Int) := (Int.natCast_mul _ _).symm
  have b1 : x / A ≤ x := Nat.div_le_self _ _
  have b2 : x % A ≤ x := Nat.mod_le _ _
  generalize x / A = C at *
  generalize x % A = D at *
  generalize hE : D * B = E at *
  have d4 : (C : Int) + (E : Int) = ((C + E : Nat) : Int) := by omega
  simp (config := {contextual := true, maxSteps := 2000000, implicitDefEqProofs := false}) only [go_sem, ↓reduceIte, Nat.reduceEqDiff, Nat.reduceAdd, Nat.reduceMul, Nat.reduceLeDiff, Nat.reduceLT, Nat.reduceSub, IntWalk.iteOmega, IntWalk.toNatUp, reduceCtorEq, Int.reduceLE, Int.reduceLT, Int.reduceToNat, Int.reduceNeg, e3, d0, d1, d2]
  refine hq.use ?_
  rintro _ _ ⟨rfl, rfl⟩
  simp (config := {contextual := true, maxSteps := 2000000, implicitDefEqProofs := false}) only [go_sem, ↓reduceIte, Nat.reduceEqDiff, Nat.reduceAdd, Nat.reduceMul, Nat.reduceLeDiff, Nat.reduceLT, Nat.reduceSub, IntWalk.iteOmega, IntWalk.toNatUp, reduceCtorEq, Int.reduceLE, Int.reduceLT, Int.reduceToNat, Int.reduceNeg, d3, d4]
  (repeat' (first | exact Bel.refl _ _ | assumption | refine Bel.add ?_ _ | refine Bel.addSet ?_ (by first | omega | (simp; omega)) _ | refine Bel.trans (by assumption) ?_))
theorem turnedLeft_ok (T : World) (h : Hp) (x n : Nat) (hx : x < 4294967296) (hn : n ≤ 32) :
    CallsH Tryd.prog T 246 #[.int .i64 x, .int .i64 n] h fun v' h' => v' = .int .i64 (rotl x n : Nat) ∧ h' = h := by
  refine CallsH.of_code' (args := [_, _]) Tryd.func246 rfl rfl rfl rfl ?_
  have e3 : (32 : Int) - n = ((32 - n : Nat) : Int) := by omega
  simp (config := {contextual := true, maxSteps := 2000000, implicitDefEqProofs := false}) only [go_sem, ↓reduceIte, Nat.reduceEqDiff, Nat.reduceAdd, Nat.reduceMul, Nat.reduceLeDiff, Nat.reduceLT, Nat.reduceSub, IntWalk.iteOmega, IntWalk.toNatUp, reduceCtorEq, Int.reduceLE, Int.reduceLT, Int.reduceToNat, Int.reduceNeg, e3]
  have := turned_ok T h x (32 - n) hx (by omega)
  rw [show 32 - (32 - n) = n by omega] at this
  refine this.pure ?_
  simp (config := {contextual := true, maxSteps := 2000000, implicitDefEqProofs := false}) only [go_sem, ↓reduceIte, Nat.reduceEqDiff, Nat.reduceAdd, Nat.reduceMul, Nat.reduceLeDiff, Nat.reduceLT, Nat.reduceSub, IntWalk.iteOmega, IntWalk.toNatUp, reduceCtorEq, Int.reduceLE, Int.reduceLT, Int.reduceToNat, Int.reduceNeg]
/-! lists of words in memory -/
def wv (x : Nat) : Value := .int .u32 (x : Nat)
def nv (x : Nat) : Value := .int .i64 (x : Nat)
def W32 (s : List Nat) : Prop := ∀ x ∈ s, x < 4294967296
theorem W32.getD {s : List Nat} (w : W32 s) (i : Nat) : s.getD i 0 < 4294967296 := by
  rw [List.getD_eq_getElem?_getD]
  cases hx : s[i]? with
  | none => simp
  | some x => exact w x (List.mem_of_getElem? hx)
theorem W32.set {s : List Nat} (w : W32 s) (i : Nat) {y : Nat} (hy : y < 4294967296) : W32 (s.set i y) := by
  intro x hx
  rcases List.mem_or_eq_of_mem_set hx with h | h
  · exact w x h
  · rw [h]; exact hy
theorem cells_get {f : Nat → Value} {g : Hp} {b : Nat} {E : TypeId} {s : List Nat} {sp : List Value} (hx : g[b]? = some (.cells (s.map f ++ sp).toArray E)) {i : Nat} (hi : i < s.length) : hc g ⟨b, i, none⟩ = some (f (s.getD i 0)) := by
  rw [hc_last hx, nth_eq, List.getElem?_append_left (by simpa using hi), List.getElem?_map, List.getD_eq_getElem?_getD, List.getElem?_eq_getElem hi]; rfl
theorem cells_set {f : Nat → Value} {g : Hp} {b : Nat} {E : TypeId} {s : List Nat} {sp : List Value} (hx : g[b]? = some (.cells (s.map f ++ sp).toArray E)) {i : Nat} (hi : i < s.length) (y : Nat) (ho : oneC (f y) = true) :
    wr1 g ⟨b, i, none⟩ (f y) = some (g.setIfInBounds b (.cells ((s.set i y).map f ++ sp).toArray E)) := by
  rw [wr1_get hx, if_pos ⟨by simp; omega, ho⟩, List.set_append_left _ _ (by simpa using hi), List.map_set]
theorem cells_new {g : Hp} {b : Nat} {o o' : Obj} (hx : g[b]? = some o') : (g.setIfInBounds b o)[b]? = some o := by
  rw [Array.getElem?_setIfInBounds, if_pos rfl, if_pos (lt_of_get hx)]
theorem set_same {g : Hp} {b : Nat} {o : Obj} (hx : g[b]? = some o) : g.setIfInBounds b o = g := by
  apply Array.ext_getElem?
  intro i
  rw [Array.getElem?_setIfInBounds]
  by_cases hb : b = i
  · subst hb; rw [if_pos rfl, if_pos (lt_of_get hx), hx]
  · rw [if_neg hb]
theorem set_set (g : Hp) (b : Nat) (o o' : Obj) : (g.setIfInBounds b o).setIfInBounds b o' = g.setIfInBounds b o' := by
  apply Array.ext_getElem?
  intro i
  rw [Array.getElem?_setIfInBounds, Array.getElem?_setIfInBounds, Array.getElem?_setIfInBounds, Array.size_setIfInBounds]
  by_cases hb : b = i
  · rw [if_pos hb, if_pos hb]
  · rw [if_neg hb, if_neg hb, if_neg hb]
def qstep (s : List Nat) (a b d n : Nat) : List Nat :=
  (s.set a ((s.getD a 0 + s.getD b 0) % 4294967296)).set d (rotl ((s.set a ((s.getD a 0 + s.getD b 0) % 4294967296)).getD d 0 ^^^ (s.set a ((s.getD a 0 + s.getD b 0) % 4294967296)).getD a 0) n)
def qround (s : List Nat) (a b c d : Nat) : List Nat := qstep (qstep (qstep (qstep s a b d 16) c d b 12) a b d 8) c d b 7
theorem xor_lt32 {a b : Nat} (ha : a < 4294967296) (hb : b < 4294967296) : a ^^^ b < 4294967296 := Nat.xor_lt_two_pow (n := 32) ha hb
theorem qstep_w32 {s : List Nat} (w : W32 s) (a b d n : Nat) (hn : n ≤ 32) : W32 (qstep s a b d n) := by
  unfold qstep
  have w1 := w.set a (y := (s.getD a 0 + s.getD b 0) % 4294967296) (by omega)
  exact w1.set d (rotl_lt (xor_lt32 (w1.getD d) (w1.getD a)) hn)
theorem qstep_length (s : List Nat) (a b d n : Nat) : (qstep s a b d n).length = s.length := by simp [qstep]
theorem qround_w32 {s : List Nat} (w : W32 s) (a b c d : Nat) : W32 (qround s a b c d) :=
  qstep_w32 (qstep_w32 (qstep_w32 (qstep_w32 w _ _ _ _ (by omega)) _ _ _ _ (by omega)) _ _ _ _ (by omega)) _ _ _ _ (by omega)
theorem qround_length (s : List Nat) (a b c d : Nat) : (qround s a b c d).length = s.length := by simp [qround, qstep_length]
/-! the program's quarter -/
def pv (j x y : Nat) : Nat := if j % 2 = 0 then x else y
def pn (j : Nat) : Nat := [16, 12, 8, 7].getD j 0
def pst (s : List Nat) (a b c d : Nat) : Nat → List Nat
  | 0 => s
  | j + 1 => qstep (pst s a b c d j) (pv j a c) (pv j b d) (pv j d b) (pn j)
theorem pst_four (s : List Nat) (a b c d : Nat) : pst s a b c d 4 = qround s a b c d := rfl
theorem pn_nth (j : Nat) (hj : j < 4) : nth [Value.int .i64 16, .int .i64 12, .int .i64 8, .int .i64 7] j = some (.int .i64 (pn j : Nat)) := by
  rcases j with _ | _ | _ | _ | j <;> first | rfl | omega
theorem pn_le (j : Nat) (hj : j < 4) : pn j ≤ 32 := by
  rcases j with _ | _ | _ | _ | j <;> first | decide | omega
theorem pv_succ (j x y : Nat) : pv (j + 1) x y = pv j y x := by
  unfold pv
  by_cases h : j % 2 = 0
  · rw [if_pos h, if_neg (by omega)]
  · rw [if_neg h, if_pos (by omega)]
theorem pst_ok {s : List Nat} (w : W32 s) (a b c d : Nat) : ∀ j, j ≤ 4 → W32 (pst s a b c d j) ∧ (pst s a b c d j).length = s.length := by
  intro j
  induction j with
  | zero => intro _; exact ⟨w, rfl⟩
  | succ j ih =>
    intro hj
    obtain ⟨h1, h2⟩ := ih (by omega)
    exact ⟨qstep_w32 h1 _ _ _ _ (pn_le j (by omega)), by rw [pst, qstep_length, h2]⟩
theorem quarter_ok (T : World) (h : Hp) (bk : Nat) (s : List Nat) (a b c d : Nat) (hs : s.length = 16) (w : W32 s) (ha : a < 16) (hb : b < 16) (hc : c < 16) (hd : d < 16) (hx : h[bk]? = some (.cells (s.map wv ++ []).toArray 241)) :
    CallsH Tryd.prog T 222 #[.pointer (some ⟨bk, 0, none⟩), .int .i64 a, .int .i64 b, .int .i64 c, .int .i64 d] h fun v' h' => h' = h.setIfInBounds bk (.cells ((qround s a b c d).map wv ++ []).toArray 241) := by
  refine CallsH.of_code' (args := [_, _, _, _, _]) Tryd.func222 rfl rfl rfl rfl ?_
  simp (config := {contextual := true, maxSteps := 2000000, implicitDefEqProofs := false}) only [go_sem, ↓reduceIte, Nat.reduceEqDiff, Nat.reduceAdd, Nat.reduceMul, Nat.reduceLeDiff, Nat.reduceLT, Nat.reduceSub, IntWalk.iteOmega, IntWalk.toNatUp, reduceCtorEq, Int.reduceLE, Int.reduceLT, Int.reduceToNat, Int.reduceNeg]
  refine VS.loop' (fun F g => ∃ j : Nat, j ≤ 4 ∧ F 0 = .pointer (some ⟨bk, 0, none⟩) ∧ F 1 = .int .i64 (pv j a c : Nat) ∧ F 2 = .int .i64 (pv j b d : Nat) ∧ F 3 = .int .i64 (pv j c a : Nat) ∧ F 4 = .int .i64 (pv j d b : Nat) ∧ F 12 = .agg [.int .i64 16, .int .i64 12, .int .i64 8, .int .i64 7].toArray ∧ F 13 = .int .i64 j ∧ g = h.setIfInBounds bk (.cells ((pst s a b c d j).map wv ++ []).toArray 241))
    (fun F _ => 4 - (vi (F 13)).toNat) rfl ⟨0, by omega, rfl, rfl, rfl, rfl, rfl, rfl, rfl, ?_⟩ ?_
  · exact (set_same hx).symm
  rintro F g ⟨j, hj, f0, f1, f2, f3, f4, f12, f13, rfl⟩
  by_cases hlt : j < 4
  · have hlt' : (j : Int) < 4 := by omega
    have n1 := pn_nth j hlt
    have n2 := pn_le j hlt
    obtain ⟨w1, l1⟩ := pst_ok w a b c d j hj
    rw [hs] at l1
    have q1 : pv j a c < 16 := by unfold pv; split <;> assumption
    have q2 : pv j b d < 16 := by unfold pv; split <;> assumption
    have q4 : pv j d b < 16 := by unfold pv; split <;> assumption
    have hx1 := cells_new (o := .cells ((pst s a b c d j).map wv ++ []).toArray 241) hx
    obtain ⟨G, hG⟩ : ∃ G, G = h.setIfInBounds bk (.cells ((pst s a b c d j).map wv ++ []).toArray 241) := ⟨_, rfl⟩
    rw [← hG] at hx1 ⊢
    generalize hst : pst s a b c d j = st at *
    simp (config := {contextual := true, maxSteps := 2000000, implicitDefEqProofs := false}) only [go_sem, ↓reduceIte, Nat.reduceEqDiff, Nat.reduceAdd, Nat.reduceMul, Nat.reduceLeDiff, Nat.reduceLT, Nat.reduceSub, IntWalk.iteOmega, IntWalk.toNatUp, reduceCtorEq, Int.reduceLE, Int.reduceLT, Int.reduceToNat, Int.reduceNeg, f12, f13, hlt', n1]
    refine VS.w (bk + 1) [13] (.q 0 (.q 1 (.q 2 (.q 3 (.q 4 (.q 5 (.q 6 (.q 7 (.q 8 (.q 9 (.q 10 (.q 11 (.q 12 (.w 13 .nil)))))))))))))) mixed (by kernel_rfl) ?_
    have g1 := cells_get hx1 (i := pv j a c) (by omega)
    have g2 := cells_get hx1 (i := pv j b d) (by omega)
    have c1 : wr1 G ⟨bk, pv j a c, none⟩ (.int .u32 ((((st.getD (pv j a c) 0 + st.getD (pv j b d) 0) % 4294967296 : Nat)) : Int)) = _ := cells_set (f := wv) hx1 (i := pv j a c) (by omega) _ rfl
    have e1 : ((st.getD (pv j a c) 0 : Int) + (st.getD (pv j b d) 0 : Int)) % 4294967296 = (((st.getD (pv j a c) 0 + st.getD (pv j b d) 0) % 4294967296 : Nat) : Int) := by omega
    unfold wv at g1 g2
    obtain ⟨y, hy⟩ : ∃ y, y = (st.getD (pv j a c) 0 + st.getD (pv j b d) 0) % 4294967296 := ⟨_, rfl⟩
    have hy32 : y < 4294967296 := by omega
    rw [← hy] at c1 e1
    simp (config := {contextual := true, maxSteps := 2000000, implicitDefEqProofs := false}) only [go_sem, ↓reduceIte, Nat.reduceEqDiff, Nat.reduceAdd, Nat.reduceMul, Nat.reduceLeDiff, Nat.reduceLT, Nat.reduceSub, IntWalk.iteOmega, IntWalk.toNatUp, reduceCtorEq, Int.reduceLE, Int.reduceLT, Int.reduceToNat, Int.reduceNeg, f0, f1, f2, g1, g2, e1, c1]
    have hx2 := cells_new (o := .cells ((st.set (pv j a c) y).map wv ++ []).toArray 241) hx1
    have w2 := w1.set (pv j a c) hy32
    have l2 : (st.set (pv j a c) y).length = 16 := by rw [List.length_set, l1]
    have hpst : pst s a b c d (j + 1) = (st.set (pv j a c) y).set (pv j d b) (rotl ((st.set (pv j a c) y).getD (pv j d b) 0 ^^^ (st.set (pv j a c) y).getD (pv j a c) 0) (pn j)) := by
      rw [pst, hst, qstep, ← hy]
    rw [hG]
    generalize st.set (pv j a c) y = st2 at *
    refine VS.w (bk + 1) [17] (.q 0 (.q 1 (.q 2 (.q 3 (.q 4 (.q 5 (.q 6 (.q 7 (.q 8 (.q 9 (.q 10 (.q 11 (.q 12 (.q 13 (.q 15 (.s 14 (.q 16 (.w 17 .nil)))))))))))))))))) mixed (by kernel_rfl) ?_
    clear hx2
    rw [set_set]
    have hx2 : (h.setIfInBounds bk (.cells (st2.map wv ++ []).toArray 241))[bk]? = some (.cells (st2.map wv ++ []).toArray 241) := cells_new hx
    obtain ⟨G2, hG2⟩ : ∃ G2, G2 = h.setIfInBounds bk (.cells (st2.map wv ++ []).toArray 241) := ⟨_, rfl⟩
    rw [← hG2] at hx2 ⊢
    have g3 := cells_get hx2 (i := pv j d b) (by omega)
    have g4 := cells_get hx2 (i := pv j a c) (by omega)
    unfold wv at g3 g4
    have e2 := xor_u32 (st2.getD (pv j d b) 0) (st2.getD (pv j a c) 0) (w2.getD _) (w2.getD _)
    have hz := xor_lt32 (w2.getD (pv j d b)) (w2.getD (pv j a c))
    generalize st2.getD (pv j d b) 0 ^^^ st2.getD (pv j a c) 0 = z at *
    simp (config := {contextual := true, maxSteps := 2000000, implicitDefEqProofs := false}) only [go_sem, ↓reduceIte, Nat.reduceEqDiff, Nat.reduceAdd, Nat.reduceMul, Nat.reduceLeDiff, Nat.reduceLT, Nat.reduceSub, IntWalk.iteOmega, IntWalk.toNatUp, reduceCtorEq, Int.reduceLE, Int.reduceLT, Int.reduceToNat, Int.reduceNeg, f0, f1, f4, g3, g4, e2]
    refine (chaTurn_ok T _ z (pn j) hz n2).pure ?_
    have c2 : wr1 G2 ⟨bk, pv j d b, none⟩ (.int .u32 ((rotl z (pn j) : Nat) : Int)) = _ := cells_set (f := wv) hx2 (i := pv j d b) (by omega) _ rfl
    simp (config := {contextual := true, maxSteps := 2000000, implicitDefEqProofs := false}) only [go_sem, ↓reduceIte, Nat.reduceEqDiff, Nat.reduceAdd, Nat.reduceMul, Nat.reduceLeDiff, Nat.reduceLT, Nat.reduceSub, IntWalk.iteOmega, IntWalk.toNatUp, reduceCtorEq, Int.reduceLE, Int.reduceLT, Int.reduceToNat, Int.reduceNeg, c2, f1, f2, f3, f4, f12, f13]
    refine ⟨⟨j + 1, by omega, f0, ?_, ?_, ?_, ?_, f12, rfl, ?_⟩, ?_⟩
    · rw [pv_succ]; rfl
    · rw [pv_succ]; rfl
    · rw [pv_succ]; rfl
    · rw [pv_succ]; rfl
    · rw [hG2, set_set, hpst]
    · simp only [vi, updo_some, ↓reduceIte, f13]; omega
  · have hge : ¬ (j : Int) < 4 := by omega
    obtain rfl : j = 4 := by omega
    simp (config := {contextual := true, maxSteps := 2000000, implicitDefEqProofs := false}) only [go_sem, ↓reduceIte, Nat.reduceEqDiff, Nat.reduceAdd, Nat.reduceMul, Nat.reduceLeDiff, Nat.reduceLT, Nat.reduceSub, IntWalk.iteOmega, IntWalk.toNatUp, reduceCtorEq, Int.reduceLE, Int.reduceLT, Int.reduceToNat, Int.reduceNeg, f12, f13, hge]
    rw [pst_four]
theorem nv_open {h : Hp} {v : Value} {l : List Nat} (s : Ts (fun x => [nv x]) 1 h v l) : ∃ p cap, v = .slice p l.length cap ∧ (l ≠ [] → ∃ b o, p = some ⟨b, o, none⟩ ∧ b < h.size ∧ ∀ i, i < l.length → hc h ⟨b, o + i, none⟩ = some (.int .i64 (l.getD i 0 : Nat))) := by
  obtain ⟨p, cap, hv, hc1⟩ := Ts.open (enc := fun x => [nv x]) (n := 1) (fun _ => rfl) Nat.one_ne_zero s
  refine ⟨p, cap, hv, fun hne => ?_⟩
  obtain ⟨b, o, hp, hb, hcs⟩ := hc1 hne
  refine ⟨b, o, hp, hb, fun i hi => ?_⟩
  have := (hcs i hi).hc (i := 0) rfl
  rw [Nat.mul_one, Nat.add_zero] at this
  rw [this, List.getD_eq_getElem?_getD, List.getElem?_eq_getElem hi]; rfl
/-- The call's own words: their block. -/
theorem nv_own {B : Nat} {h : Hp} {v : Value} {l : List Nat} (s : Ots B 3 (fun x => [nv x]) 1 h v l) (hne : l ≠ []) : ∃ b c sp, v = .slice (some ⟨b, 0, none⟩) l.length c ∧ B ≤ b ∧ h[b]? = some (.cells (l.map nv ++ sp).toArray 3) ∧ sp.length = (c - l.length) ∧ l.length ≤ c := by
  rcases s.own with ⟨_, h0, _⟩ | ⟨b, cap, sp, hB, hv, hx, _, hsp, hc⟩
  · exact absurd (List.eq_nil_of_length_eq_zero h0) hne
  · rw [encs_one] at hx
    exact ⟨b, cap, sp, hv, hB, hx, by rw [hsp, Nat.mul_one], hc⟩
theorem nv_back {B : Nat} {h : Hp} {l : List Nat} {b c : Nat} {sp : List Value} (hB : B ≤ b) (hx : h[b]? = some (.cells (l.map nv ++ sp).toArray 3)) (hsp : sp.length = c - l.length) (hc : l.length ≤ c) : Ots B 3 (fun x => [nv x]) 1 h (.slice (some ⟨b, 0, none⟩) l.length c) l := by
  refine ⟨.inr ⟨b, c, sp, hB, rfl, by rw [encs_one]; exact hx, by rw [encs_one]; simp, by rw [hsp, Nat.mul_one], hc⟩⟩
set_option maxHeartbeats 2000000 in
theorem quartered_ok (T : World) (h : Hp) (v : Value) (s : List Nat) (a b c d : Nat) (hs : s.length = 16) (w : W32 s) (ha : a < 16) (hb : b < 16) (hc : c < 16) (hd : d < 16) (hv : Ts (fun x => [nv x]) 1 h v s) :
    CallsH Tryd.prog T 225 #[v, .int .i64 a, .int .i64 b, .int .i64 c, .int .i64 d] h fun v' h' => Ots h.size 3 (fun x => [nv x]) 1 h' v' (qround s a b c d) ∧ Bel h.size h h' := by
  obtain ⟨p, cp, rfl, hcs⟩ := nv_open hv
  obtain ⟨bb, oo, rfl, hbb, hcs⟩ := hcs (by intro e; subst e; simp at hs)
  refine CallsH.of_code' (args := [_, _, _, _, _]) Tryd.func225 rfl rfl rfl rfl ?_
  simp (config := {contextual := true, maxSteps := 2000000, implicitDefEqProofs := false}) only [go_sem, ↓reduceIte, Nat.reduceEqDiff, Nat.reduceAdd, Nat.reduceMul, Nat.reduceLeDiff, Nat.reduceLT, Nat.reduceSub, IntWalk.iteOmega, IntWalk.toNatUp, reduceCtorEq, Int.reduceLE, Int.reduceLT, Int.reduceToNat, Int.reduceNeg]
  refine VS.loop' (fun F g => Bel h.size h g ∧ F 0 = .slice (some ⟨bb, oo, none⟩) s.length cp ∧ F 1 = .int .i64 a ∧ F 2 = .int .i64 b ∧ F 3 = .int .i64 c ∧ F 4 = .int .i64 d ∧ ∃ i : Nat, i ≤ s.length ∧ F 12 = .int .i64 i ∧ Ots h.size 3 (fun x => [nv x]) 1 g (F 11) (s.take i))
    (fun F _ => s.length - (vi (F 12)).toNat) rfl ⟨Bel.refl _ _, rfl, rfl, rfl, rfl, rfl, 0, by omega, rfl, Ots.nil _ _ _ _ _⟩ ?_
  rintro F g ⟨hg, f0, f1, f2, f3, f4, i, hi, f12, ho⟩
  by_cases hlt : i < s.length
  · have hlt' : (i : Int) < s.length := by omega
    have g1 : V.hc g ⟨bb, oo + i, none⟩ = some (.int .i64 (s.getD i 0 : Nat)) := by rw [hg.hc (by exact hbb)]; exact hcs i hlt
    simp (config := {contextual := true, maxSteps := 2000000, implicitDefEqProofs := false}) only [go_sem, ↓reduceIte, Nat.reduceEqDiff, Nat.reduceAdd, Nat.reduceMul, Nat.reduceLeDiff, Nat.reduceLT, Nat.reduceSub, IntWalk.iteOmega, IntWalk.toNatUp, reduceCtorEq, Int.reduceLE, Int.reduceLT, Int.reduceToNat, Int.reduceNeg, f0, f12, hlt', g1]
    refine append_ts (E := 3) (B := h.size) (n := 1) (bytes := 8) tsl155 Tryd.underlying155 tn3 tz3 rfl tb3 (fun _ => rfl) (ho.push _) (by have := hg.size; simp; omega) (Ts.one (enc := fun x => [nv x]) (s.getD i 0) (fun _ => rfl) 1) ?_ (by omega) ?_
    · simp only [List.length_take, List.length_singleton]; omega
    intro v' h' ho' hb' _
    simp (config := {contextual := true, maxSteps := 2000000, implicitDefEqProofs := false}) only [go_sem, ↓reduceIte, Nat.reduceEqDiff, Nat.reduceAdd, Nat.reduceMul, Nat.reduceLeDiff, Nat.reduceLT, Nat.reduceSub, IntWalk.iteOmega, IntWalk.toNatUp, reduceCtorEq, Int.reduceLE, Int.reduceLT, Int.reduceToNat, Int.reduceNeg, f0, f1, f2, f3, f4, f12]
    refine ⟨⟨(hg.addP hg.size _).trans hb', f0, f1, f2, f3, f4, i + 1, hlt, rfl, ?_⟩, ?_⟩
    · rw [take_snoc _ i hlt]
      have e : s.getD i 0 = s[i] := by rw [List.getD_eq_getElem?_getD, List.getElem?_eq_getElem hlt]; rfl
      rw [← e]; exact ho'
    · simp only [vi, updo_some, ↓reduceIte, f12]; omega
  · have hge : ¬ (i : Int) < s.length := by omega
    obtain rfl : i = s.length := by omega
    rw [List.take_length] at ho
    obtain ⟨bk, cap, sp, f11, hbk, hx, hsp, hcap⟩ := nv_own ho (by intro e; subst e; simp at hs)
    clear hcs hbb ho hlt hi
    have B0 := hg
    have w0 := w
    have l0 := hs
    have ha' : (a : Int) < 16 := by omega
    have hb' : (b : Int) < 16 := by omega
    have hc' : (c : Int) < 16 := by omega
    have hd' : (d : Int) < 16 := by omega
    obtain ⟨s0, hs0⟩ : ∃ s0, s0 = s := ⟨_, rfl⟩
    obtain ⟨G0, hG0⟩ : ∃ G, G = g := ⟨_, rfl⟩
    rw [← hs0] at w0 l0 hx
    rw [← hG0] at hx B0
    rw [hs] at hsp hcap f11
    simp (config := {contextual := true, maxSteps := 2000000, implicitDefEqProofs := false}) only [go_sem, ↓reduceIte, Nat.reduceEqDiff, Nat.reduceAdd, Nat.reduceMul, Nat.reduceLeDiff, Nat.reduceLT, Nat.reduceSub, IntWalk.iteOmega, IntWalk.toNatUp, reduceCtorEq, Int.reduceLE, Int.reduceLT, Int.reduceToNat, Int.reduceNeg, f0, f12, hge]
    rw [← hG0]
    refine VS.w (bk + 1) [13] (.q 0 (.q 1 (.q 2 (.q 3 (.q 4 (.q 5 (.q 6 (.q 7 (.q 8 (.q 9 (.q 10 (.s 11 (.q 12 (.w 13 .nil)))))))))))))) mixed (by kernel_rfl) ?_
    have gi := cells_get hx (i := a) (by omega)
    have gj := cells_get hx (i := b) (by omega)
    unfold nv at gi gj
    have e1 : ((s0.getD a 0 : Int) + (s0.getD b 0 : Int)) = ((s0.getD a 0 + s0.getD b 0 : Nat) : Int) := by omega
    have bi := w0.getD a
    have bj := w0.getD b
    have hl := l0
    obtain ⟨y, hy⟩ : ∃ y, y = (s0.getD a 0 + s0.getD b 0) % 4294967296 := ⟨_, rfl⟩
    have hy32 : y < 4294967296 := by omega
    simp (config := {contextual := true, maxSteps := 2000000, implicitDefEqProofs := false}) only [go_sem, ↓reduceIte, Nat.reduceEqDiff, Nat.reduceAdd, Nat.reduceMul, Nat.reduceLeDiff, Nat.reduceLT, Nat.reduceSub, IntWalk.iteOmega, IntWalk.toNatUp, reduceCtorEq, Int.reduceLE, Int.reduceLT, Int.reduceToNat, Int.reduceNeg, f1, f2, f3, f4, f11, ha', hb', hc', hd', gi, gj, e1]
    refine (word32_ok T _ _).pure ?_
    rw [← hy]
    have c1 : wr1 G0 ⟨bk, a, none⟩ (.int .i64 (y : Nat)) = _ := cells_set (f := nv) hx (i := a) (by omega) y rfl
    simp (config := {contextual := true, maxSteps := 2000000, implicitDefEqProofs := false}) only [go_sem, ↓reduceIte, Nat.reduceEqDiff, Nat.reduceAdd, Nat.reduceMul, Nat.reduceLeDiff, Nat.reduceLT, Nat.reduceSub, IntWalk.iteOmega, IntWalk.toNatUp, reduceCtorEq, Int.reduceLE, Int.reduceLT, Int.reduceToNat, Int.reduceNeg, c1]
    have w1 := w0.set a hy32
    have l1 : (s0.set a y).length = 16 := by rw [List.length_set, l0]
    have hx := cells_new (o := .cells ((s0.set a y).map nv ++ sp).toArray 3) hx
    have B1 := B0.addSet (b := bk) hbk (.cells ((s0.set a y).map nv ++ sp).toArray 3)
    have f1 := f1
    obtain ⟨s1, hs1⟩ : ∃ s1, s1 = s0.set a y := ⟨_, rfl⟩
    rw [← hs1] at w1 l1 hx B1 ⊢
    have y0 := hy
    rw [hy] at hs1
    obtain ⟨G1, hG1⟩ : ∃ G, G = G0.setIfInBounds bk (.cells (s1.map nv ++ sp).toArray 3) := ⟨_, rfl⟩
    rw [← hG1] at hx B1 ⊢
    clear gi gj e1 c1 hy hy32
    refine VS.w (bk + 1) [13] (.q 0 (.q 1 (.q 2 (.q 3 (.q 4 (.q 5 (.q 6 (.q 7 (.q 8 (.q 9 (.q 10 (.s 11 (.q 12 (.w 13 .nil)))))))))))))) mixed (by kernel_rfl) ?_
    have gi := cells_get hx (i := d) (by omega)
    have gj := cells_get hx (i := a) (by omega)
    unfold nv at gi gj
    have e1 := xor_i64 (s1.getD d 0) (s1.getD a 0) (Nat.lt_trans (w1.getD _) (by decide)) (Nat.lt_trans (w1.getD _) (by decide))
    have hz := xor_lt32 (w1.getD d) (w1.getD a)
    obtain ⟨y, hy⟩ : ∃ y, y = rotl (s1.getD d 0 ^^^ s1.getD a 0) 16 := ⟨_, rfl⟩
    have hy32 : y < 4294967296 := by rw [hy]; exact rotl_lt hz (by decide)
    simp (config := {contextual := true, maxSteps := 2000000, implicitDefEqProofs := false}) only [go_sem, ↓reduceIte, Nat.reduceEqDiff, Nat.reduceAdd, Nat.reduceMul, Nat.reduceLeDiff, Nat.reduceLT, Nat.reduceSub, IntWalk.iteOmega, IntWalk.toNatUp, reduceCtorEq, Int.reduceLE, Int.reduceLT, Int.reduceToNat, Int.reduceNeg, f1, f2, f3, f4, f11, ha', hb', hc', hd', gi, gj, e1]
    refine (turnedLeft_ok T _ _ 16 hz (by decide)).pure ?_
    rw [← hy]
    have c1 : wr1 G1 ⟨bk, d, none⟩ (.int .i64 (y : Nat)) = _ := cells_set (f := nv) hx (i := d) (by omega) y rfl
    simp (config := {contextual := true, maxSteps := 2000000, implicitDefEqProofs := false}) only [go_sem, ↓reduceIte, Nat.reduceEqDiff, Nat.reduceAdd, Nat.reduceMul, Nat.reduceLeDiff, Nat.reduceLT, Nat.reduceSub, IntWalk.iteOmega, IntWalk.toNatUp, reduceCtorEq, Int.reduceLE, Int.reduceLT, Int.reduceToNat, Int.reduceNeg, c1]
    have w2 := w1.set d hy32
    have l2 : (s1.set d y).length = 16 := by rw [List.length_set, l1]
    have hx := cells_new (o := .cells ((s1.set d y).map nv ++ sp).toArray 3) hx
    have B2 := B1.addSet (b := bk) hbk (.cells ((s1.set d y).map nv ++ sp).toArray 3)
    have f1 := f1
    obtain ⟨s2, hs2⟩ : ∃ s2, s2 = s1.set d y := ⟨_, rfl⟩
    rw [← hs2] at w2 l2 hx B2 ⊢
    have y1 := hy
    rw [hy] at hs2
    obtain ⟨G2, hG2⟩ : ∃ G, G = G1.setIfInBounds bk (.cells (s2.map nv ++ sp).toArray 3) := ⟨_, rfl⟩
    rw [← hG2] at hx B2 ⊢
    clear gi gj e1 c1 hy hy32
    refine VS.w (bk + 1) [13] (.q 0 (.q 1 (.q 2 (.q 3 (.q 4 (.q 5 (.q 6 (.q 7 (.q 8 (.q 9 (.q 10 (.s 11 (.q 12 (.w 13 .nil)))))))))))))) mixed (by kernel_rfl) ?_
    have gi := cells_get hx (i := c) (by omega)
    have gj := cells_get hx (i := d) (by omega)
    unfold nv at gi gj
    have e1 : ((s2.getD c 0 : Int) + (s2.getD d 0 : Int)) = ((s2.getD c 0 + s2.getD d 0 : Nat) : Int) := by omega
    have bi := w2.getD c
    have bj := w2.getD d
    have hl := l2
    obtain ⟨y, hy⟩ : ∃ y, y = (s2.getD c 0 + s2.getD d 0) % 4294967296 := ⟨_, rfl⟩
    have hy32 : y < 4294967296 := by omega
    simp (config := {contextual := true, maxSteps := 2000000, implicitDefEqProofs := false}) only [go_sem, ↓reduceIte, Nat.reduceEqDiff, Nat.reduceAdd, Nat.reduceMul, Nat.reduceLeDiff, Nat.reduceLT, Nat.reduceSub, IntWalk.iteOmega, IntWalk.toNatUp, reduceCtorEq, Int.reduceLE, Int.reduceLT, Int.reduceToNat, Int.reduceNeg, f1, f2, f3, f4, f11, ha', hb', hc', hd', gi, gj, e1]
    refine (word32_ok T _ _).pure ?_
    rw [← hy]
    have c1 : wr1 G2 ⟨bk, c, none⟩ (.int .i64 (y : Nat)) = _ := cells_set (f := nv) hx (i := c) (by omega) y rfl
    simp (config := {contextual := true, maxSteps := 2000000, implicitDefEqProofs := false}) only [go_sem, ↓reduceIte, Nat.reduceEqDiff, Nat.reduceAdd, Nat.reduceMul, Nat.reduceLeDiff, Nat.reduceLT, Nat.reduceSub, IntWalk.iteOmega, IntWalk.toNatUp, reduceCtorEq, Int.reduceLE, Int.reduceLT, Int.reduceToNat, Int.reduceNeg, c1]
    have w3 := w2.set c hy32
    have l3 : (s2.set c y).length = 16 := by rw [List.length_set, l2]
    have hx := cells_new (o := .cells ((s2.set c y).map nv ++ sp).toArray 3) hx
    have B3 := B2.addSet (b := bk) hbk (.cells ((s2.set c y).map nv ++ sp).toArray 3)
    have f1 := f1
    obtain ⟨s3, hs3⟩ : ∃ s3, s3 = s2.set c y := ⟨_, rfl⟩
    rw [← hs3] at w3 l3 hx B3 ⊢
    have y2 := hy
    rw [hy] at hs3
    obtain ⟨G3, hG3⟩ : ∃ G, G = G2.setIfInBounds bk (.cells (s3.map nv ++ sp).toArray 3) := ⟨_, rfl⟩
    rw [← hG3] at hx B3 ⊢
    clear gi gj e1 c1 hy hy32
    refine VS.w (bk + 1) [13] (.q 0 (.q 1 (.q 2 (.q 3 (.q 4 (.q 5 (.q 6 (.q 7 (.q 8 (.q 9 (.q 10 (.s 11 (.q 12 (.w 13 .nil)))))))))))))) mixed (by kernel_rfl) ?_
    have gi := cells_get hx (i := b) (by omega)
    have gj := cells_get hx (i := c) (by omega)
    unfold nv at gi gj
    have e1 := xor_i64 (s3.getD b 0) (s3.getD c 0) (Nat.lt_trans (w3.getD _) (by decide)) (Nat.lt_trans (w3.getD _) (by decide))
    have hz := xor_lt32 (w3.getD b) (w3.getD c)
    obtain ⟨y, hy⟩ : ∃ y, y = rotl (s3.getD b 0 ^^^ s3.getD c 0) 12 := ⟨_, rfl⟩
    have hy32 : y < 4294967296 := by rw [hy]; exact rotl_lt hz (by decide)
    simp (config := {contextual := true, maxSteps := 2000000, implicitDefEqProofs := false}) only [go_sem, ↓reduceIte, Nat.reduceEqDiff, Nat.reduceAdd, Nat.reduceMul, Nat.reduceLeDiff, Nat.reduceLT, Nat.reduceSub, IntWalk.iteOmega, IntWalk.toNatUp, reduceCtorEq, Int.reduceLE, Int.reduceLT, Int.reduceToNat, Int.reduceNeg, f1, f2, f3, f4, f11, ha', hb', hc', hd', gi, gj, e1]
    refine (turnedLeft_ok T _ _ 12 hz (by decide)).pure ?_
    rw [← hy]
    have c1 : wr1 G3 ⟨bk, b, none⟩ (.int .i64 (y : Nat)) = _ := cells_set (f := nv) hx (i := b) (by omega) y rfl
    simp (config := {contextual := true, maxSteps := 2000000, implicitDefEqProofs := false}) only [go_sem, ↓reduceIte, Nat.reduceEqDiff, Nat.reduceAdd, Nat.reduceMul, Nat.reduceLeDiff, Nat.reduceLT, Nat.reduceSub, IntWalk.iteOmega, IntWalk.toNatUp, reduceCtorEq, Int.reduceLE, Int.reduceLT, Int.reduceToNat, Int.reduceNeg, c1]
    have w4 := w3.set b hy32
    have l4 : (s3.set b y).length = 16 := by rw [List.length_set, l3]
    have hx := cells_new (o := .cells ((s3.set b y).map nv ++ sp).toArray 3) hx
    have B4 := B3.addSet (b := bk) hbk (.cells ((s3.set b y).map nv ++ sp).toArray 3)
    have f1 := f1
    obtain ⟨s4, hs4⟩ : ∃ s4, s4 = s3.set b y := ⟨_, rfl⟩
    rw [← hs4] at w4 l4 hx B4 ⊢
    have y3 := hy
    rw [hy] at hs4
    obtain ⟨G4, hG4⟩ : ∃ G, G = G3.setIfInBounds bk (.cells (s4.map nv ++ sp).toArray 3) := ⟨_, rfl⟩
    rw [← hG4] at hx B4 ⊢
    clear gi gj e1 c1 hy hy32
    refine VS.w (bk + 1) [13] (.q 0 (.q 1 (.q 2 (.q 3 (.q 4 (.q 5 (.q 6 (.q 7 (.q 8 (.q 9 (.q 10 (.s 11 (.q 12 (.w 13 .nil)))))))))))))) mixed (by kernel_rfl) ?_
    have gi := cells_get hx (i := a) (by omega)
    have gj := cells_get hx (i := b) (by omega)
    unfold nv at gi gj
    have e1 : ((s4.getD a 0 : Int) + (s4.getD b 0 : Int)) = ((s4.getD a 0 + s4.getD b 0 : Nat) : Int) := by omega
    have bi := w4.getD a
    have bj := w4.getD b
    have hl := l4
    obtain ⟨y, hy⟩ : ∃ y, y = (s4.getD a 0 + s4.getD b 0) % 4294967296 := ⟨_, rfl⟩
    have hy32 : y < 4294967296 := by omega
    simp (config := {contextual := true, maxSteps := 2000000, implicitDefEqProofs := false}) only [go_sem, ↓reduceIte, Nat.reduceEqDiff, Nat.reduceAdd, Nat.reduceMul, Nat.reduceLeDiff, Nat.reduceLT, Nat.reduceSub, IntWalk.iteOmega, IntWalk.toNatUp, reduceCtorEq, Int.reduceLE, Int.reduceLT, Int.reduceToNat, Int.reduceNeg, f1, f2, f3, f4, f11, ha', hb', hc', hd', gi, gj, e1]
    refine (word32_ok T _ _).pure ?_
    rw [← hy]
    have c1 : wr1 G4 ⟨bk, a, none⟩ (.int .i64 (y : Nat)) = _ := cells_set (f := nv) hx (i := a) (by omega) y rfl
    simp (config := {contextual := true, maxSteps := 2000000, implicitDefEqProofs := false}) only [go_sem, ↓reduceIte, Nat.reduceEqDiff, Nat.reduceAdd, Nat.reduceMul, Nat.reduceLeDiff, Nat.reduceLT, Nat.reduceSub, IntWalk.iteOmega, IntWalk.toNatUp, reduceCtorEq, Int.reduceLE, Int.reduceLT, Int.reduceToNat, Int.reduceNeg, c1]
    have w5 := w4.set a hy32
    have l5 : (s4.set a y).length = 16 := by rw [List.length_set, l4]
    have hx := cells_new (o := .cells ((s4.set a y).map nv ++ sp).toArray 3) hx
    have B5 := B4.addSet (b := bk) hbk (.cells ((s4.set a y).map nv ++ sp).toArray 3)
    have f1 := f1
    obtain ⟨s5, hs5⟩ : ∃ s5, s5 = s4.set a y := ⟨_, rfl⟩
    rw [← hs5] at w5 l5 hx B5 ⊢
    have y4 := hy
    rw [hy] at hs5
    obtain ⟨G5, hG5⟩ : ∃ G, G = G4.setIfInBounds bk (.cells (s5.map nv ++ sp).toArray 3) := ⟨_, rfl⟩
    rw [← hG5] at hx B5 ⊢
    clear gi gj e1 c1 hy hy32
    refine VS.w (bk + 1) [13] (.q 0 (.q 1 (.q 2 (.q 3 (.q 4 (.q 5 (.q 6 (.q 7 (.q 8 (.q 9 (.q 10 (.s 11 (.q 12 (.w 13 .nil)))))))))))))) mixed (by kernel_rfl) ?_
    have gi := cells_get hx (i := d) (by omega)
    have gj := cells_get hx (i := a) (by omega)
    unfold nv at gi gj
    have e1 := xor_i64 (s5.getD d 0) (s5.getD a 0) (Nat.lt_trans (w5.getD _) (by decide)) (Nat.lt_trans (w5.getD _) (by decide))
    have hz := xor_lt32 (w5.getD d) (w5.getD a)
    obtain ⟨y, hy⟩ : ∃ y, y = rotl (s5.getD d 0 ^^^ s5.getD a 0) 8 := ⟨_, rfl⟩
    have hy32 : y < 4294967296 := by rw [hy]; exact rotl_lt hz (by decide)
    simp (config := {contextual := true, maxSteps := 2000000, implicitDefEqProofs := false}) only [go_sem, ↓reduceIte, Nat.reduceEqDiff, Nat.reduceAdd, Nat.reduceMul, Nat.reduceLeDiff, Nat.reduceLT, Nat.reduceSub, IntWalk.iteOmega, IntWalk.toNatUp, reduceCtorEq, Int.reduceLE, Int.reduceLT, Int.reduceToNat, Int.reduceNeg, f1, f2, f3, f4, f11, ha', hb', hc', hd', gi, gj, e1]
    refine (turnedLeft_ok T _ _ 8 hz (by decide)).pure ?_
    rw [← hy]
    have c1 : wr1 G5 ⟨bk, d, none⟩ (.int .i64 (y : Nat)) = _ := cells_set (f := nv) hx (i := d) (by omega) y rfl
    simp (config := {contextual := true, maxSteps := 2000000, implicitDefEqProofs := false}) only [go_sem, ↓reduceIte, Nat.reduceEqDiff, Nat.reduceAdd, Nat.reduceMul, Nat.reduceLeDiff, Nat.reduceLT, Nat.reduceSub, IntWalk.iteOmega, IntWalk.toNatUp, reduceCtorEq, Int.reduceLE, Int.reduceLT, Int.reduceToNat, Int.reduceNeg, c1]
    have w6 := w5.set d hy32
    have l6 : (s5.set d y).length = 16 := by rw [List.length_set, l5]
    have hx := cells_new (o := .cells ((s5.set d y).map nv ++ sp).toArray 3) hx
    have B6 := B5.addSet (b := bk) hbk (.cells ((s5.set d y).map nv ++ sp).toArray 3)
    have f1 := f1
    obtain ⟨s6, hs6⟩ : ∃ s6, s6 = s5.set d y := ⟨_, rfl⟩
    rw [← hs6] at w6 l6 hx B6 ⊢
    have y5 := hy
    rw [hy] at hs6
    obtain ⟨G6, hG6⟩ : ∃ G, G = G5.setIfInBounds bk (.cells (s6.map nv ++ sp).toArray 3) := ⟨_, rfl⟩
    rw [← hG6] at hx B6 ⊢
    clear gi gj e1 c1 hy hy32
    refine VS.w (bk + 1) [13] (.q 0 (.q 1 (.q 2 (.q 3 (.q 4 (.q 5 (.q 6 (.q 7 (.q 8 (.q 9 (.q 10 (.s 11 (.q 12 (.w 13 .nil)))))))))))))) mixed (by kernel_rfl) ?_
    have gi := cells_get hx (i := c) (by omega)
    have gj := cells_get hx (i := d) (by omega)
    unfold nv at gi gj
    have e1 : ((s6.getD c 0 : Int) + (s6.getD d 0 : Int)) = ((s6.getD c 0 + s6.getD d 0 : Nat) : Int) := by omega
    have bi := w6.getD c
    have bj := w6.getD d
    have hl := l6
    obtain ⟨y, hy⟩ : ∃ y, y = (s6.getD c 0 + s6.getD d 0) % 4294967296 := ⟨_, rfl⟩
    have hy32 : y < 4294967296 := by omega
    simp (config := {contextual := true, maxSteps := 2000000, implicitDefEqProofs := false}) only [go_sem, ↓reduceIte, Nat.reduceEqDiff, Nat.reduceAdd, Nat.reduceMul, Nat.reduceLeDiff, Nat.reduceLT, Nat.reduceSub, IntWalk.iteOmega, IntWalk.toNatUp, reduceCtorEq, Int.reduceLE, Int.reduceLT, Int.reduceToNat, Int.reduceNeg, f1, f2, f3, f4, f11, ha', hb', hc', hd', gi, gj, e1]
    refine (word32_ok T _ _).pure ?_
    rw [← hy]
    have c1 : wr1 G6 ⟨bk, c, none⟩ (.int .i64 (y : Nat)) = _ := cells_set (f := nv) hx (i := c) (by omega) y rfl
    simp (config := {contextual := true, maxSteps := 2000000, implicitDefEqProofs := false}) only [go_sem, ↓reduceIte, Nat.reduceEqDiff, Nat.reduceAdd, Nat.reduceMul, Nat.reduceLeDiff, Nat.reduceLT, Nat.reduceSub, IntWalk.iteOmega, IntWalk.toNatUp, reduceCtorEq, Int.reduceLE, Int.reduceLT, Int.reduceToNat, Int.reduceNeg, c1]
    have w7 := w6.set c hy32
    have l7 : (s6.set c y).length = 16 := by rw [List.length_set, l6]
    have hx := cells_new (o := .cells ((s6.set c y).map nv ++ sp).toArray 3) hx
    have B7 := B6.addSet (b := bk) hbk (.cells ((s6.set c y).map nv ++ sp).toArray 3)
    have f1 := f1
    obtain ⟨s7, hs7⟩ : ∃ s7, s7 = s6.set c y := ⟨_, rfl⟩
    rw [← hs7] at w7 l7 hx B7 ⊢
    have y6 := hy
    rw [hy] at hs7
    obtain ⟨G7, hG7⟩ : ∃ G, G = G6.setIfInBounds bk (.cells (s7.map nv ++ sp).toArray 3) := ⟨_, rfl⟩
    rw [← hG7] at hx B7 ⊢
    clear gi gj e1 c1 hy hy32
    refine VS.w (bk + 1) [13] (.q 0 (.q 1 (.q 2 (.q 3 (.q 4 (.q 5 (.q 6 (.q 7 (.q 8 (.q 9 (.q 10 (.s 11 (.q 12 (.w 13 .nil)))))))))))))) mixed (by kernel_rfl) ?_
    have gi := cells_get hx (i := b) (by omega)
    have gj := cells_get hx (i := c) (by omega)
    unfold nv at gi gj
    have e1 := xor_i64 (s7.getD b 0) (s7.getD c 0) (Nat.lt_trans (w7.getD _) (by decide)) (Nat.lt_trans (w7.getD _) (by decide))
    have hz := xor_lt32 (w7.getD b) (w7.getD c)
    obtain ⟨y, hy⟩ : ∃ y, y = rotl (s7.getD b 0 ^^^ s7.getD c 0) 7 := ⟨_, rfl⟩
    have hy32 : y < 4294967296 := by rw [hy]; exact rotl_lt hz (by decide)
    simp (config := {contextual := true, maxSteps := 2000000, implicitDefEqProofs := false}) only [go_sem, ↓reduceIte, Nat.reduceEqDiff, Nat.reduceAdd, Nat.reduceMul, Nat.reduceLeDiff, Nat.reduceLT, Nat.reduceSub, IntWalk.iteOmega, IntWalk.toNatUp, reduceCtorEq, Int.reduceLE, Int.reduceLT, Int.reduceToNat, Int.reduceNeg, f1, f2, f3, f4, f11, ha', hb', hc', hd', gi, gj, e1]
    refine (turnedLeft_ok T _ _ 7 hz (by decide)).pure ?_
    rw [← hy]
    have c1 : wr1 G7 ⟨bk, b, none⟩ (.int .i64 (y : Nat)) = _ := cells_set (f := nv) hx (i := b) (by omega) y rfl
    simp (config := {contextual := true, maxSteps := 2000000, implicitDefEqProofs := false}) only [go_sem, ↓reduceIte, Nat.reduceEqDiff, Nat.reduceAdd, Nat.reduceMul, Nat.reduceLeDiff, Nat.reduceLT, Nat.reduceSub, IntWalk.iteOmega, IntWalk.toNatUp, reduceCtorEq, Int.reduceLE, Int.reduceLT, Int.reduceToNat, Int.reduceNeg, c1]
    have w8 := w7.set b hy32
    have l8 : (s7.set b y).length = 16 := by rw [List.length_set, l7]
    have hx := cells_new (o := .cells ((s7.set b y).map nv ++ sp).toArray 3) hx
    have B8 := B7.addSet (b := bk) hbk (.cells ((s7.set b y).map nv ++ sp).toArray 3)
    have f1 := f1
    obtain ⟨s8, hs8⟩ : ∃ s8, s8 = s7.set b y := ⟨_, rfl⟩
    rw [← hs8] at w8 l8 hx B8 ⊢
    have y7 := hy
    rw [hy] at hs8
    obtain ⟨G8, hG8⟩ : ∃ G, G = G7.setIfInBounds bk (.cells (s8.map nv ++ sp).toArray 3) := ⟨_, rfl⟩
    rw [← hG8] at hx B8 ⊢
    clear gi gj e1 c1 hy hy32
    simp (config := {contextual := true, maxSteps := 2000000, implicitDefEqProofs := false}) only [go_sem, ↓reduceIte, Nat.reduceEqDiff, Nat.reduceAdd, Nat.reduceMul, Nat.reduceLeDiff, Nat.reduceLT, Nat.reduceSub, IntWalk.iteOmega, IntWalk.toNatUp, reduceCtorEq, Int.reduceLE, Int.reduceLT, Int.reduceToNat, Int.reduceNeg, f11]
    have q2 : s2 = qstep s0 a b d 16 := by rw [hs2, hs1]; rfl
    have q4 : s4 = qstep s2 c d b 12 := by rw [hs4, hs3]; rfl
    have q6 : s6 = qstep s4 a b d 8 := by rw [hs6, hs5]; rfl
    have q8 : s8 = qstep s6 c d b 7 := by rw [hs8, hs7]; rfl
    have q : s8 = qround s a b c d := by rw [q8, q6, q4, q2, hs0]; rfl
    rw [← q]
    refine ⟨?_, B8⟩
    rw [← l8]
    exact nv_back hbk hx (by rw [l8]; exact hsp) (by rw [l8]; exact hcap)
end Go.Proofs.YtnpacofabdgcdaaDoor
