/- Words of 32 bits: turned, as the program and the document do; no condition but those in the statements. -/
import Derived.Test.YtiakfdpmapmifaaBase
import Derived.Test.YtiakfdpmapmifaaW11
namespace Go.Proofs.Ytiakfdpmapmifaa
open Go Go.V
set_option linter.unusedSimpArgs false
set_option linter.unusedVariables false
set_option maxRecDepth 100000
/-- A word, turned to the left. -/
def rotl (x n : Nat) : Nat := x * 2 ^ n % 4294967296 + x / 2 ^ (32 - n)
theorem power_ok (T : World) (h : Hp) (n : Nat) (hn : n ≤ 62) : CallsH Try.prog T 60 #[.int .i64 n] h fun v' h' => v' = .int .i64 (2 ^ n : Nat) ∧ h' = h := by
  refine CallsH.of_code' (args := [_]) Try.func60 rfl rfl rfl rfl ?_
  simp (config := {contextual := true, maxSteps := 2000000, implicitDefEqProofs := false}) only [go_sem, ↓reduceIte, Nat.reduceEqDiff, Nat.reduceAdd, Nat.reduceMul, Nat.reduceLeDiff, Nat.reduceLT, Nat.reduceSub, IntWalk.iteOmega, IntWalk.toNatUp, reduceCtorEq, false_and, and_false, false_or, or_false, true_or, or_true, not_true_eq_false, not_false_eq_true, Bool.not_true, Bool.not_false, Bool.and_true, Bool.true_and, Bool.and_false, Bool.false_and, Bool.not_eq_true, beq_self_eq_true, Nat.add_zero, Int.reduceLE, Int.reduceLT, Int.reduceToNat, Int.reduceNeg]
  refine VS.loop' (fun F g => g = h ∧ F 0 = .int .i64 n ∧ ∃ i : Nat, i ≤ n ∧ F 4 = .int .i64 i ∧ F 3 = .int .i64 (2 ^ i : Nat))
    (fun F _ => n - (vi (F 4)).toNat) rfl ⟨rfl, rfl, 0, by omega, rfl, rfl⟩ ?_
  rintro F g ⟨rfl, f0, i, hi, f4, f3⟩
  by_cases hlt : i < n
  · have hlt' : (i : Int) < n := by omega
    have hp : 2 ^ (i + 1) ≤ 2 ^ 62 := Nat.pow_le_pow_right (by omega) (by omega)
    have e1 : 2 * ((2 ^ i : Nat) : Int) = ((2 ^ (i + 1) : Nat) : Int) := by rw [Nat.pow_succ, Nat.mul_comm]; exact (Int.natCast_mul 2 (2 ^ i)).symm
    have hp1 : ((2 ^ (i + 1) : Nat) : Int) ≤ 4611686018427387904 := by
      have : (2 : Nat) ^ 62 = 4611686018427387904 := by decide
      omega
    have hp0 : 0 ≤ ((2 ^ (i + 1) : Nat) : Int) := Int.natCast_nonneg _
    obtain ⟨A, hA⟩ : ∃ A : Int, A = ((2 ^ (i + 1) : Nat) : Int) := ⟨_, rfl⟩
    rw [← hA] at e1 hp1 hp0
    simp (config := {contextual := true, maxSteps := 2000000, implicitDefEqProofs := false}) only [go_sem, ↓reduceIte, Nat.reduceEqDiff, Nat.reduceAdd, Nat.reduceMul, Nat.reduceLeDiff, Nat.reduceLT, Nat.reduceSub, IntWalk.iteOmega, IntWalk.toNatUp, reduceCtorEq, false_and, and_false, false_or, or_false, true_or, or_true, not_true_eq_false, not_false_eq_true, Bool.not_true, Bool.not_false, Bool.and_true, Bool.true_and, Bool.and_false, Bool.false_and, Bool.not_eq_true, beq_self_eq_true, Nat.add_zero, Int.reduceLE, Int.reduceLT, Int.reduceToNat, Int.reduceNeg, f0, f4, f3, hlt', e1]
    refine ⟨⟨rfl, f0, i + 1, hlt, rfl, by rw [← hA]; rfl⟩, ?_⟩
    simp only [vi, updo_some, ↓reduceIte, f4]; omega
  · have hge : ¬ (i : Int) < n := by omega
    obtain rfl : i = n := by omega
    simp (config := {contextual := true, maxSteps := 2000000, implicitDefEqProofs := false}) only [go_sem, ↓reduceIte, Nat.reduceEqDiff, Nat.reduceAdd, Nat.reduceMul, Nat.reduceLeDiff, Nat.reduceLT, Nat.reduceSub, IntWalk.iteOmega, IntWalk.toNatUp, reduceCtorEq, false_and, and_false, false_or, or_false, true_or, or_true, not_true_eq_false, not_false_eq_true, Bool.not_true, Bool.not_false, Bool.and_true, Bool.true_and, Bool.and_false, Bool.false_and, Bool.not_eq_true, beq_self_eq_true, Nat.add_zero, Int.reduceLE, Int.reduceLT, Int.reduceToNat, Int.reduceNeg, f0, f4, f3, hge]
def wv (x : Nat) : Value := .int .u32 (x : Nat)
def nv (x : Nat) : Value := .int .i64 (x : Nat)
def W32 (s : List Nat) : Prop := ∀ x ∈ s, x < 4294967296
theorem W32.getD {s : List Nat} (w : W32 s) (i : Nat) : s.getD i 0 < 4294967296 := by
  rw [List.getD_eq_getElem?_getD]
  cases hx : s[i]? with
  | none => simp
  | some x => exact w x (List.mem_of_getElem? hx)
theorem W32.set {s : List Nat} (w : W32 s) (i : Nat) {y : Nat} (hy : y < 4294967296) : W32 (s.set i y) := by
  intro x hx
  rcases List.mem_or_eq_of_mem_set hx with h | h
  · exact w x h
  · rw [h]; exact hy
theorem cells_get {f : Nat → Value} {g : Hp} {b : Nat} {E : TypeId} {s : List Nat} {sp : List Value} (hx : g[b]? = some (.cells (s.map f ++ sp).toArray E)) {i : Nat} (hi : i < s.length) : hc g ⟨b, i, none⟩ = some (f (s.getD i 0)) := by
  rw [hc_last hx, nth_eq, List.getElem?_append_left (by simpa using hi), List.getElem?_map, List.getD_eq_getElem?_getD, List.getElem?_eq_getElem hi]; rfl
theorem cells_set {f : Nat → Value} {g : Hp} {b : Nat} {E : TypeId} {s : List Nat} {sp : List Value} (hx : g[b]? = some (.cells (s.map f ++ sp).toArray E)) {i : Nat} (hi : i < s.length) (y : Nat) (ho : oneC (f y) = true) :
    wr1 g ⟨b, i, none⟩ (f y) = some (g.setIfInBounds b (.cells ((s.set i y).map f ++ sp).toArray E)) := by
  rw [wr1_get hx, if_pos ⟨by simp; omega, ho⟩, List.set_append_left _ _ (by simpa using hi), List.map_set]
theorem cells_new {g : Hp} {b : Nat} {o o' : Obj} (hx : g[b]? = some o') : (g.setIfInBounds b o)[b]? = some o := by
  rw [Array.getElem?_setIfInBounds, if_pos rfl, if_pos (lt_of_get hx)]
theorem set_same {g : Hp} {b : Nat} {o : Obj} (hx : g[b]? = some o) : g.setIfInBounds b o = g := by
  apply Array.ext_getElem?
  intro i
  rw [Array.getElem?_setIfInBounds]
  by_cases hb : b = i
  · subst hb; rw [if_pos rfl, if_pos (lt_of_get hx), hx]
  · rw [if_neg hb]
theorem set_set (g : Hp) (b : Nat) (o o' : Obj) : (g.setIfInBounds b o).setIfInBounds b o' = g.setIfInBounds b o' := by
  apply Array.ext_getElem?
  intro i
  rw [Array.getElem?_setIfInBounds, Array.getElem?_setIfInBounds, Array.getElem?_setIfInBounds, Array.size_setIfInBounds]
  by_cases hb : b = i
  · rw [if_pos hb, if_pos hb]
  · rw [if_neg hb, if_neg hb, if_neg hb]
def qstep (s : List Nat) (a b d n : Nat) : List Nat :=
  (s.set a ((s.getD a 0 + s.getD b 0) % 4294967296)).set d (rotl ((s.set a ((s.getD a 0 + s.getD b 0) % 4294967296)).getD d 0 ^^^ (s.set a ((s.getD a 0 + s.getD b 0) % 4294967296)).getD a 0) n)
def qround (s : List Nat) (a b c d : Nat) : List Nat := qstep (qstep (qstep (qstep s a b d 16) c d b 12) a b d 8) c d b 7
/-! the program's quarter -/
def pv (j x y : Nat) : Nat := if j % 2 = 0 then x else y
def pn (j : Nat) : Nat := [16, 12, 8, 7].getD j 0
def pst (s : List Nat) (a b c d : Nat) : Nat → List Nat
  | 0 => s
  | j + 1 => qstep (pst s a b c d j) (pv j a c) (pv j b d) (pv j d b) (pn j)
theorem nv_open {h : Hp} {v : Value} {l : List Nat} (s : Ts (fun x => [nv x]) 1 h v l) : ∃ p cap, v = .slice p l.length cap ∧ (l ≠ [] → ∃ b o, p = some ⟨b, o, none⟩ ∧ b < h.size ∧ ∀ i, i < l.length → hc h ⟨b, o + i, none⟩ = some (.int .i64 (l.getD i 0 : Nat))) := by
  obtain ⟨p, cap, hv, hc1⟩ := Ts.open (enc := fun x => [nv x]) (n := 1) (fun _ => rfl) Nat.one_ne_zero s
  refine ⟨p, cap, hv, fun hne => ?_⟩
  obtain ⟨b, o, hp, hb, hcs⟩ := hc1 hne
  refine ⟨b, o, hp, hb, fun i hi => ?_⟩
  have := (hcs i hi).hc (i := 0) rfl
  rw [Nat.mul_one, Nat.add_zero] at this
  rw [this, List.getD_eq_getElem?_getD, List.getElem?_eq_getElem hi]; rfl
theorem nv_back {B : Nat} {h : Hp} {l : List Nat} {b c : Nat} {sp : List Value} (hB : B ≤ b) (hx : h[b]? = some (.cells (l.map nv ++ sp).toArray 3)) (hsp : sp.length = c - l.length) (hc : l.length ≤ c) : Ots B 3 (fun x => [nv x]) 1 h (.slice (some ⟨b, 0, none⟩) l.length c) l := by
  refine ⟨.inr ⟨b, c, sp, hB, rfl, by rw [encs_one]; exact hx, by rw [encs_one]; simp, by rw [hsp, Nat.mul_one], hc⟩⟩
end Go.Proofs.Ytiakfdpmapmifaa
