/- VaultDoes holds: vault.Do answers what the document says, at every argument; without any condition. -/
import Derived.Test.YtnpacofabdgcdaaDoorVst
import Derived.Test.YtnpacofabdgcdaaDoorOchk
import Derived.Test.YtnpacofabdgcdaaDoorW13
namespace Go.Proofs.YtnpacofabdgcdaaDoor
open Go Go.V
set_option linter.unusedSimpArgs false
set_option linter.unusedVariables false
set_option maxRecDepth 100000
def storeK : List (Option IntKind) := rep 32 [some .i64] ++ rep 8 [none]
theorem fitK_set : ∀ {ks : List (Option IntKind)} {vs : List Value} (i : Nat) (v : Value), fitK ks vs = true → (∀ k, ks[i]? = some k → cellOk k v = true) → fitK ks (vs.set i v) = true := by
  intro ks
  induction ks with
  | nil => intro vs i v h _; cases vs <;> simp [fitK] at h ⊢
  | cons k ks ih =>
    intro vs i v h hk
    cases vs with
    | nil => simp [fitK] at h
    | cons x vs =>
      simp only [fitK, Bool.and_eq_true] at h
      cases i with
      | zero => simp only [List.set_cons_zero, fitK, Bool.and_eq_true]; exact ⟨hk k rfl, h.2⟩
      | succ i => simp only [List.set_cons_succ, fitK, Bool.and_eq_true]; exact ⟨h.1, ih i v h.2 (fun k' hk' => hk k' (by simpa using hk'))⟩
theorem storeK_int {i : Nat} (hi : i < 32) (n : Int) : ∀ k, storeK[i]? = some k → cellOk k (.int .i64 n) = true := by
  intro k hk
  have : ∀ i < 32, storeK[i]? = some (some .i64) := by decide
  rw [this i hi] at hk
  obtain rfl := Option.some.inj hk
  rfl
theorem storeK_bool {i : Nat} (h1 : 32 ≤ i) (b : Bool) : ∀ k, storeK[i]? = some k → cellOk k (.bool b) = true := by
  intro k hk
  have : ∀ j < 8, storeK[32 + j]? = some none := by decide
  by_cases h2 : i < 40
  · have := this (i - 32) (by omega)
    rw [show 32 + (i - 32) = i by omega] at this
    rw [this] at hk
    obtain rfl := Option.some.inj hk
    rfl
  · rw [List.getElem?_eq_none (by show 40 ≤ i; omega)] at hk; cases hk
theorem set_back {g : Hp} {b : Nat} {o : Obj} (hx : g[b]? = some o) : g.setIfInBounds b o = g := by
  apply Array.ext_getElem?
  intro i
  rw [Array.getElem?_setIfInBounds]
  by_cases hb : b = i
  · subst hb; rw [if_pos rfl, if_pos (lt_of_get hx), hx]
  · rw [if_neg hb]
/-- What a command makes of a store. -/
structure Done where
  cells : List Value
  code : Int
  val : Int
def actS (cs : List Value) (k c n v : Nat) : List Value × Int :=
  if k = 1 then (cs.set n (.int .i64 v), v) else if k = 2 then (cs, ci cs n) else (cs.set (32 + n) (.bool true), 0)
def doneS (cs : List Value) (k c s n v : Nat) : Done :=
  if k = 0 then ⟨cs, 0, 0⟩ else
  if (s : Int) + 1 = ci cs (8 + c) then ⟨cs, ci cs (16 + c * 2), ci cs (16 + c * 2 + 1)⟩ else
  if (s : Int) < ci cs (8 + c) then ⟨cs, 7, 0⟩ else
  if cb cs (32 + c) = true then ⟨cs, 11, 0⟩ else
  ⟨((((actS cs k c n v).1.set (8 + c) (.int .i64 ((s : Int) + 1))).set (16 + c * 2) (.int .i64 0)).set (16 + c * 2 + 1) (.int .i64 (actS cs k c n v).2)), 0, (actS cs k c n v).2⟩
def doErr (cs : List Value) (k c s n v : Int) : Int := if storeBad cs = true then 5 else cmdErr k c s n v
def storeZ : List Value := rep 32 [Value.int .i64 0] ++ rep 8 [Value.bool false]
def doL (cs : List Value) (k c s n v : Int) : List Value :=
  if doErr cs k c s n v = 0 then [.agg (doneS cs k.toNat c.toNat s.toNat n.toNat v.toNat).cells.toArray, .agg [.int .i64 (doneS cs k.toNat c.toNat s.toNat n.toNat v.toNat).code, .int .i64 (doneS cs k.toNat c.toNat s.toNat n.toNat v.toNat).val].toArray, .int .i64 0]
    else [.agg storeZ.toArray, .agg [.int .i64 0, .int .i64 0].toArray, .int .i64 (doErr cs k c s n v)]
def DoRes (v' : Value) (cs : List Value) (k c s n v : Int) : Prop := v' = .tuple (doL cs k c s n v).toArray
theorem fitK_of_nth : ∀ (ks : List (Option IntKind)) (vs : List Value), vs.length = ks.length → (∀ (i : Nat) k x, ks[i]? = some k → vs[i]? = some x → cellOk k x = true) → fitK ks vs = true := by
  intro ks
  induction ks with
  | nil => intro vs h _; rw [List.eq_nil_of_length_eq_zero h]; rfl
  | cons k ks ih =>
    intro vs h H
    cases vs with
    | nil => simp at h
    | cons x vs =>
      simp only [fitK, Bool.and_eq_true]
      exact ⟨H 0 k x rfl rfl, ih vs (by simpa using h) (fun i k' x' h1 h2 => H (i + 1) k' x' (by simpa using h1) (by simpa using h2))⟩
theorem store_fit {cs : List Value} (hl : cs.length = 40) (hi : ∀ i, i < 32 → nth cs i = some (.int .i64 (ci cs i))) (hb : ∀ i, 32 ≤ i → i < 40 → nth cs i = some (.bool (cb cs i))) : fitK storeK cs = true := by
  refine fitK_of_nth _ _ hl fun i k x hk hx => ?_
  by_cases h1 : i < 32
  · have := hi i h1
    rw [nth_eq, hx] at this
    rw [Option.some.inj this]
    exact storeK_int h1 _ k hk
  · have hlt : i < 40 := by rw [← hl]; exact (List.getElem?_eq_some_iff.1 hx).1
    have := hb i (by omega) hlt
    rw [nth_eq, hx] at this
    rw [Option.some.inj this]
    exact storeK_bool (by omega) _ k hk
theorem cmdErr_small {k c s n v : Int} (h : cmdErr k c s n v = 0) : ∃ k' c' s' n' v' : Nat, k = k' ∧ c = c' ∧ s = s' ∧ n = n' ∧ v = v' ∧ k' ≤ 3 ∧ c' ≤ 7 ∧ s' ≤ 1048576 ∧ n' ≤ 7 ∧ v' ≤ 1073741824 := by
  have : 0 ≤ k ∧ k ≤ 3 ∧ 0 ≤ c ∧ c ≤ 7 ∧ 0 ≤ s ∧ s ≤ 1048576 ∧ 0 ≤ n ∧ n ≤ 7 ∧ 0 ≤ v ∧ v ≤ 1073741824 := by
    unfold cmdErr at h
    repeat' split at h
    all_goals omega
  exact ⟨k.toNat, c.toNat, s.toNat, n.toNat, v.toNat, by omega, by omega, by omega, by omega, by omega, by omega, by omega, by omega, by omega, by omega⟩
theorem ci_set_ne {cs : List Value} {i j : Nat} {x : Value} (h : i ≠ j) : ci (cs.set i x) j = ci cs j := by
  unfold ci
  rw [nth_eq, nth_eq, List.getElem?_set_ne h]
theorem ints_set {cs : List Value} {j : Nat} (hj : j < cs.length) (x : Int) (hi : ∀ i, i < 32 → nth cs i = some (.int .i64 (ci cs i))) : ∀ i, i < 32 → nth (cs.set j (.int .i64 x)) i = some (.int .i64 (ci (cs.set j (.int .i64 x)) i)) := by
  intro i h32
  by_cases e : j = i
  · subst e
    have : nth (cs.set j (.int .i64 x)) j = some (.int .i64 x) := by rw [nth_eq, List.getElem?_set_self hj]
    unfold ci
    rw [this]
  · rw [ci_set_ne e, nth_eq, List.getElem?_set_ne e, ← nth_eq]; exact hi i h32
theorem actS_last (cs : List Value) (k c n v : Nat) (x : Value) (hn : n ≤ 7) (hc : c ≤ 7) : actS (cs.set (8 + c) x) k c n v = ((actS cs k c n v).1.set (8 + c) x, (actS cs k c n v).2) := by
  unfold actS
  by_cases k1 : k = 1
  · rw [if_pos k1, if_pos k1, List.set_comm _ _ (by omega)]
  · rw [if_neg k1, if_neg k1]
    by_cases k2 : k = 2
    · rw [if_pos k2, if_pos k2, ci_set_ne (by omega)]
    · rw [if_neg k2, if_neg k2, List.set_comm _ _ (by omega)]
theorem actS_fit {cs : List Value} (hf : fitK storeK cs = true) (k c n v : Nat) (hn : n ≤ 7) : fitK storeK (actS cs k c n v).1 = true := by
  unfold actS
  by_cases k1 : k = 1
  · rw [if_pos k1]; exact fitK_set n _ hf (storeK_int (by omega) _)
  · rw [if_neg k1]
    by_cases k2 : k = 2
    · rw [if_pos k2]; exact hf
    · rw [if_neg k2]; exact fitK_set (32 + n) _ hf (storeK_bool (by omega) _)
theorem doneS_fit {cs : List Value} (hf : fitK storeK cs = true) (k c s n v : Nat) (hn : n ≤ 7) (hc : c ≤ 7) : fitK storeK (doneS cs k c s n v).cells = true := by
  unfold doneS
  repeat' split
  all_goals first | exact hf | skip
  exact fitK_set _ _ (fitK_set _ _ (fitK_set _ _ (actS_fit hf k c n v hn) (storeK_int (by omega) _)) (storeK_int (by omega) _)) (storeK_int (by omega) _)
theorem vaultAct_ok (T : World) (h : Hp) (b : Nat) (cs : List Value) (k c s n v : Nat) (hl : cs.length = 40) (hi : ∀ i, i < 32 → nth cs i = some (.int .i64 (ci cs i))) (hn : n ≤ 7) (hk : 1 ≤ k) (hk3 : k ≤ 3) (hx : h[b]? = some (.cells cs.toArray 54)) :
    CallsH Tryd.prog T 124 #[.pointer (some ⟨b, 0, none⟩), .agg (cmdC k c s n v).toArray] h fun v' h' => v' = .agg [.int .i64 0, .int .i64 (actS cs k c n v).2].toArray ∧ Bel h.size (h.setIfInBounds b (.cells (actS cs k c n v).1.toArray 54)) h' := by
  refine CallsH.of_code' (args := [_, _]) Tryd.func124 rfl rfl rfl rfl ?_
  have hb := lt_of_get hx
  have hn8 : (n : Int) < 8 := by omega
  unfold cmdC actS
  by_cases k1 : k = 1
  · subst k1
    simp (config := {contextual := true, maxSteps := 2000000, implicitDefEqProofs := false}) only [go_sem, ↓reduceIte, Nat.reduceEqDiff, Nat.reduceAdd, Nat.reduceMul, Nat.reduceLeDiff, Nat.reduceLT, Nat.reduceSub, IntWalk.iteOmega, IntWalk.toNatUp, reduceCtorEq, false_and, and_false, false_or, or_false, true_or, or_true, not_true_eq_false, not_false_eq_true, Bool.not_true, Bool.not_false, Bool.and_true, Bool.true_and, Bool.and_false, Bool.false_and, Bool.not_eq_true, beq_self_eq_true, Nat.add_zero, Int.reduceLE, Int.reduceLT, Int.reduceToNat, Int.reduceNeg]
    refine VS.w (h.size + 2) [8] (.q 0 (.q 1 (.q 2 (.q 3 (.q 4 (.q 5 (.q 6 (.q 7 (.w 8 .nil))))))))) mixed (by kernel_rfl) ?_
    have w1 := wr1_get hx n (.int .i64 v)
    rw [if_pos ⟨by omega, rfl⟩] at w1
    have nn : nth (cs.set n (.int .i64 (v : Int))) n = some (.int .i64 v) := by rw [nth_eq, List.getElem?_set_self (by omega)]
    simp (config := {contextual := true, maxSteps := 2000000, implicitDefEqProofs := false}) only [go_sem, ↓reduceIte, Nat.reduceEqDiff, Nat.reduceAdd, Nat.reduceMul, Nat.reduceLeDiff, Nat.reduceLT, Nat.reduceSub, IntWalk.iteOmega, IntWalk.toNatUp, reduceCtorEq, false_and, and_false, false_or, or_false, true_or, or_true, not_true_eq_false, not_false_eq_true, Bool.not_true, Bool.not_false, Bool.and_true, Bool.true_and, Bool.and_false, Bool.false_and, Bool.not_eq_true, beq_self_eq_true, Nat.add_zero, Int.reduceLE, Int.reduceLT, Int.reduceToNat, Int.reduceNeg, hn8, w1, hb]
    refine VS.w (h.size + 2) [8] (.q 0 (.q 1 (.q 2 (.q 3 (.q 4 (.q 5 (.q 6 (.q 7 (.w 8 .nil))))))))) mixed (by kernel_rfl) ?_
    simp (config := {contextual := true, maxSteps := 2000000, implicitDefEqProofs := false}) only [go_sem, ↓reduceIte, Nat.reduceEqDiff, Nat.reduceAdd, Nat.reduceMul, Nat.reduceLeDiff, Nat.reduceLT, Nat.reduceSub, IntWalk.iteOmega, IntWalk.toNatUp, reduceCtorEq, false_and, and_false, false_or, or_false, true_or, or_true, not_true_eq_false, not_false_eq_true, Bool.not_true, Bool.not_false, Bool.and_true, Bool.true_and, Bool.and_false, Bool.false_and, Bool.not_eq_true, beq_self_eq_true, Nat.add_zero, Int.reduceLE, Int.reduceLT, Int.reduceToNat, Int.reduceNeg, hn8, hb, nn]
    exact ((Bel.push (by simp) _).addP (by simp) _)
  · by_cases k2 : k = 2
    · subst k2
      have nn := hi n (by omega)
      have x1 : hc h ⟨b, n, none⟩ = some (.int .i64 (ci cs n)) := by rw [hc_last hx]; exact nn
      have hsb := set_back hx
      simp (config := {contextual := true, maxSteps := 2000000, implicitDefEqProofs := false}) only [go_sem, ↓reduceIte, Nat.reduceEqDiff, Nat.reduceAdd, Nat.reduceMul, Nat.reduceLeDiff, Nat.reduceLT, Nat.reduceSub, IntWalk.iteOmega, IntWalk.toNatUp, reduceCtorEq, false_and, and_false, false_or, or_false, true_or, or_true, not_true_eq_false, not_false_eq_true, Bool.not_true, Bool.not_false, Bool.and_true, Bool.true_and, Bool.and_false, Bool.false_and, Bool.not_eq_true, beq_self_eq_true, Nat.add_zero, Int.reduceLE, Int.reduceLT, Int.reduceToNat, Int.reduceNeg, hsb]
      refine VS.w (h.size + 2) [8] (.q 0 (.q 1 (.q 2 (.q 3 (.q 4 (.q 5 (.q 6 (.q 7 (.w 8 .nil))))))))) mixed (by kernel_rfl) ?_
      simp (config := {contextual := true, maxSteps := 2000000, implicitDefEqProofs := false}) only [go_sem, ↓reduceIte, Nat.reduceEqDiff, Nat.reduceAdd, Nat.reduceMul, Nat.reduceLeDiff, Nat.reduceLT, Nat.reduceSub, IntWalk.iteOmega, IntWalk.toNatUp, reduceCtorEq, false_and, and_false, false_or, or_false, true_or, or_true, not_true_eq_false, not_false_eq_true, Bool.not_true, Bool.not_false, Bool.and_true, Bool.true_and, Bool.and_false, Bool.false_and, Bool.not_eq_true, beq_self_eq_true, Nat.add_zero, Int.reduceLE, Int.reduceLT, Int.reduceToNat, Int.reduceNeg, hn8, hb, x1]
    · have k3 : k = 3 := by omega
      subst k3
      have w1 := wr1_get hx (32 + n) (.bool true)
      rw [if_pos ⟨by omega, rfl⟩] at w1
      simp (config := {contextual := true, maxSteps := 2000000, implicitDefEqProofs := false}) only [go_sem, ↓reduceIte, Nat.reduceEqDiff, Nat.reduceAdd, Nat.reduceMul, Nat.reduceLeDiff, Nat.reduceLT, Nat.reduceSub, IntWalk.iteOmega, IntWalk.toNatUp, reduceCtorEq, false_and, and_false, false_or, or_false, true_or, or_true, not_true_eq_false, not_false_eq_true, Bool.not_true, Bool.not_false, Bool.and_true, Bool.true_and, Bool.and_false, Bool.false_and, Bool.not_eq_true, beq_self_eq_true, Nat.add_zero, Int.reduceLE, Int.reduceLT, Int.reduceToNat, Int.reduceNeg]
      refine VS.w (h.size + 2) [6] (.q 0 (.q 1 (.q 2 (.q 3 (.q 4 (.q 5 (.w 6 .nil))))))) mixed (by kernel_rfl) ?_
      simp (config := {contextual := true, maxSteps := 2000000, implicitDefEqProofs := false}) only [go_sem, ↓reduceIte, Nat.reduceEqDiff, Nat.reduceAdd, Nat.reduceMul, Nat.reduceLeDiff, Nat.reduceLT, Nat.reduceSub, IntWalk.iteOmega, IntWalk.toNatUp, reduceCtorEq, false_and, and_false, false_or, or_false, true_or, or_true, not_true_eq_false, not_false_eq_true, Bool.not_true, Bool.not_false, Bool.and_true, Bool.true_and, Bool.and_false, Bool.false_and, Bool.not_eq_true, beq_self_eq_true, Nat.add_zero, Int.reduceLE, Int.reduceLT, Int.reduceToNat, Int.reduceNeg, hn8, w1, hb]
      exact ((Bel.push (by simp) _).addP (by simp) _)
theorem vaultDo_ok (T : World) (h : Hp) (cs : List Value) (k c s n v : Int) (hf : fitK storeK cs = true) (hi : ∀ i, i < 32 → nth cs i = some (.int .i64 (ci cs i))) (hb : ∀ i, 32 ≤ i → i < 40 → nth cs i = some (.bool (cb cs i))) :
    CallsH Tryd.prog T 82 #[.agg cs.toArray, .agg (cmdC k c s n v).toArray] h fun v' h' => DoRes v' cs k c s n v ∧ Bel h.size h h' := by
  have hl : cs.length = 40 := fitK_length hf
  have tk := take_len hl
  have hone := fitK_one hf
  refine CallsH.of_code2 (args := [_, _]) Tryd.func82 rfl rfl rfl rfl ?_
  unfold cmdC
  simp (config := {contextual := true, maxSteps := 2000000, implicitDefEqProofs := false}) only [go_sem, ↓reduceIte, Nat.reduceEqDiff, Nat.reduceAdd, Nat.reduceMul, Nat.reduceLeDiff, Nat.reduceLT, Nat.reduceSub, IntWalk.iteOmega, IntWalk.toNatUp, reduceCtorEq, false_and, and_false, false_or, or_false, true_or, or_true, not_true_eq_false, not_false_eq_true, Bool.not_true, Bool.not_false, Bool.and_true, Bool.true_and, Bool.and_false, Bool.false_and, Bool.not_eq_true, beq_self_eq_true, Nat.add_zero, Int.reduceLE, Int.reduceLT, Int.reduceToNat, Int.reduceNeg, hl, tk]
  refine (vcheck_ok T _ cs hl hi).use ?_
  rintro _ _ ⟨rfl, rfl⟩
  unfold DoRes doL doErr
  by_cases e1 : storeBad cs = true
  · simp (config := {contextual := true, maxSteps := 2000000, implicitDefEqProofs := false}) only [go_sem, ↓reduceIte, Nat.reduceEqDiff, Nat.reduceAdd, Nat.reduceMul, Nat.reduceLeDiff, Nat.reduceLT, Nat.reduceSub, IntWalk.iteOmega, IntWalk.toNatUp, reduceCtorEq, false_and, and_false, false_or, or_false, true_or, or_true, not_true_eq_false, not_false_eq_true, Bool.not_true, Bool.not_false, Bool.and_true, Bool.true_and, Bool.and_false, Bool.false_and, Bool.not_eq_true, beq_self_eq_true, Nat.add_zero, Int.reduceLE, Int.reduceLT, Int.reduceToNat, Int.reduceNeg, e1]
    refine ⟨rfl, ?_⟩
    (repeat' (first | exact Bel.refl _ _ | assumption | refine Bel.add ?_ _ | refine Bel.addSet ?_ (by first | omega | (simp; omega)) _ | refine Bel.trans (by assumption) ?_))
  · have e1 : storeBad cs = false := by simpa using e1
    simp (config := {contextual := true, maxSteps := 2000000, implicitDefEqProofs := false}) only [go_sem, ↓reduceIte, Nat.reduceEqDiff, Nat.reduceAdd, Nat.reduceMul, Nat.reduceLeDiff, Nat.reduceLT, Nat.reduceSub, IntWalk.iteOmega, IntWalk.toNatUp, reduceCtorEq, false_and, and_false, false_or, or_false, true_or, or_true, not_true_eq_false, not_false_eq_true, Bool.not_true, Bool.not_false, Bool.and_true, Bool.true_and, Bool.and_false, Bool.false_and, Bool.not_eq_true, beq_self_eq_true, Nat.add_zero, Int.reduceLE, Int.reduceLT, Int.reduceToNat, Int.reduceNeg, e1]
    refine (orderCheck_ok T _ k c s n v).use ?_
    rintro _ _ ⟨rfl, rfl⟩
    unfold cmdC
    by_cases e2 : cmdErr k c s n v = 0
    · obtain ⟨k, c, s, n, v, rfl, rfl, rfl, rfl, rfl, y1, y2, y3, y4, y5⟩ := cmdErr_small e2
      simp only [Int.toNat_natCast]
      have hcl : storeZ = [.int .i64 0, .int .i64 0, .int .i64 0, .int .i64 0, .int .i64 0, .int .i64 0, .int .i64 0, .int .i64 0, .int .i64 0, .int .i64 0, .int .i64 0, .int .i64 0, .int .i64 0, .int .i64 0, .int .i64 0, .int .i64 0, .int .i64 0, .int .i64 0, .int .i64 0, .int .i64 0, .int .i64 0, .int .i64 0, .int .i64 0, .int .i64 0, .int .i64 0, .int .i64 0, .int .i64 0, .int .i64 0, .int .i64 0, .int .i64 0, .int .i64 0, .int .i64 0, .bool false, .bool false, .bool false, .bool false, .bool false, .bool false, .bool false, .bool false] := rfl
      obtain ⟨H, hH⟩ : ∃ H : Hp, H = ((((((h.push (.cells cs.toArray 54)).push (.cells [.int .i64 k, .int .i64 c, .int .i64 s, .int .i64 n, .int .i64 v].toArray 25)).push (.cells [.int .i64 0, .int .i64 0, .int .i64 0, .int .i64 0, .int .i64 0, .int .i64 0, .int .i64 0, .int .i64 0, .int .i64 0, .int .i64 0, .int .i64 0, .int .i64 0, .int .i64 0, .int .i64 0, .int .i64 0, .int .i64 0, .int .i64 0, .int .i64 0, .int .i64 0, .int .i64 0, .int .i64 0, .int .i64 0, .int .i64 0, .int .i64 0, .int .i64 0, .int .i64 0, .int .i64 0, .int .i64 0, .int .i64 0, .int .i64 0, .int .i64 0, .int .i64 0, .bool false, .bool false, .bool false, .bool false, .bool false, .bool false, .bool false, .bool false].toArray 54)).push (.cells [.int .i64 0, .int .i64 0].toArray 50)).push (.cells cs.toArray 54)).push (.cells [.int .i64 k, .int .i64 c, .int .i64 s, .int .i64 n, .int .i64 v].toArray 25)) := ⟨_, rfl⟩
      have x0 : H[h.size]? = some (.cells cs.toArray 54) := by rw [hH]; simp only [Array.getElem?_push, Array.size_push, IntWalk.iteOmega, ↓reduceIte]
      have x1 : H[h.size + 1]? = some (.cells [.int .i64 k, .int .i64 c, .int .i64 s, .int .i64 n, .int .i64 v].toArray 25) := by rw [hH]; simp only [Array.getElem?_push, Array.size_push, IntWalk.iteOmega, ↓reduceIte]
      have x2 : H[h.size + 2]? = some (.cells storeZ.toArray 54) := by rw [hH, hcl]; simp only [Array.getElem?_push, Array.size_push, IntWalk.iteOmega, ↓reduceIte]
      have x3 : H[h.size + 3]? = some (.cells [.int .i64 0, .int .i64 0].toArray 50) := by rw [hH]; simp only [Array.getElem?_push, Array.size_push, IntWalk.iteOmega, ↓reduceIte]
      have hHs : H.size = h.size + 6 := by rw [hH]; simp
      have hHb : Bel h.size h H := by rw [hH]; (repeat' (first | exact Bel.refl _ _ | assumption | refine Bel.add ?_ _ | refine Bel.addSet ?_ (by first | omega | (simp; omega)) _ | refine Bel.trans (by assumption) ?_))
      rw [← hH]
      clear hH hcl
      have c1 : hc H ⟨h.size + 1, 0, none⟩ = some (.int .i64 k) := by rw [hc_last x1]; rfl
      have c2 : hc H ⟨h.size + 1, 1, none⟩ = some (.int .i64 c) := by rw [hc_last x1]; rfl
      have c3 : hc H ⟨h.size + 1, 2, none⟩ = some (.int .i64 s) := by rw [hc_last x1]; rfl
      have cc : (c : Int) < 8 := by omega
      have lastc := hi (8 + c) (by omega)
      have lx : hc H ⟨h.size, 8 + c, none⟩ = some (.int .i64 (ci cs (8 + c))) := by rw [hc_last x0]; exact lastc
      have fin : ∀ (G : Hp) (D : List Value) (a b : Int), D.length = 40 → D.all oneC = true → G[h.size + 2]? = some (.cells storeZ.toArray 54) → G[h.size + 3]? = some (.cells [.int .i64 0, .int .i64 0].toArray 50) →
          wr G ⟨h.size + 1 + 1, 0, none⟩ D = some (G.setIfInBounds (h.size + 1 + 1) (.cells D.toArray 54)) ∧
          wr (G.setIfInBounds (h.size + 1 + 1) (.cells D.toArray 54)) ⟨h.size + 1 + 1 + 1, 0, none⟩ [.int .i64 a, .int .i64 b] = some ((G.setIfInBounds (h.size + 1 + 1) (.cells D.toArray 54)).setIfInBounds (h.size + 1 + 1 + 1) (.cells [.int .i64 a, .int .i64 b].toArray 50)) := by
        intro G D a b d1 d2 g2 g3
        refine ⟨?_, ?_⟩
        · rw [wr_get (b := h.size + 1 + 1) g2 0 D, lput_full (by rw [d1]; rfl), if_pos ⟨by rw [d1]; exact Nat.le_refl _, d2⟩]
        · rw [wr_get (b := h.size + 1 + 1 + 1) (l := [.int .i64 0, .int .i64 0]) (t := 50) (by rw [Array.getElem?_setIfInBounds, if_neg (by omega)]; exact g3), if_pos ⟨by simp, rfl⟩]
          rfl
      have r0 := rd_last x0 hl
      have bel2 : ∀ (G : Hp) (o o' : Obj), Bel h.size h G → Bel h.size h ((G.setIfInBounds (h.size + 1 + 1) o).setIfInBounds (h.size + 1 + 1 + 1) o') := fun G o o' hG => (hG.addSet (by omega) _).addSet (by omega) _
      by_cases k0 : k = 0
      · subst k0
        have ed : doneS cs 0 c s n v = ⟨cs, 0, 0⟩ := rfl
        obtain ⟨w2, w3⟩ := fin H cs 0 0 hl hone x2 x3
        simp (config := {maxSteps := 2000000, implicitDefEqProofs := false}) only [go_sem, ↓reduceIte, Nat.reduceEqDiff, Nat.reduceAdd, Nat.reduceMul, Nat.reduceLeDiff, Nat.reduceLT, Nat.reduceSub, IntWalk.iteOmega, IntWalk.toNatUp, reduceCtorEq, false_and, and_false, false_or, or_false, true_or, or_true, not_true_eq_false, not_false_eq_true, Bool.not_true, Bool.not_false, Bool.and_true, Bool.true_and, Bool.and_false, Bool.false_and, Bool.not_eq_true, beq_self_eq_true, Nat.add_zero, Int.reduceLE, Int.reduceLT, Int.reduceToNat, Int.reduceNeg, e2, c1, c2, cc, ed, r0, w2, w3, hl, hHs, tk, hHb]
        exact bel2 H _ _ hHb
      · have k0' : ¬ (k : Int) = 0 := by omega
        simp (config := {maxSteps := 2000000, implicitDefEqProofs := false}) only [go_sem, ↓reduceIte, Nat.reduceEqDiff, Nat.reduceAdd, Nat.reduceMul, Nat.reduceLeDiff, Nat.reduceLT, Nat.reduceSub, IntWalk.iteOmega, IntWalk.toNatUp, reduceCtorEq, false_and, and_false, false_or, or_false, true_or, or_true, not_true_eq_false, not_false_eq_true, Bool.not_true, Bool.not_false, Bool.and_true, Bool.true_and, Bool.and_false, Bool.false_and, Bool.not_eq_true, beq_self_eq_true, Nat.add_zero, Int.reduceLE, Int.reduceLT, Int.reduceToNat, Int.reduceNeg, e2, c1, c2, cc, k0']
        refine VS.q mixed (by kernel_rfl) ?_
        by_cases q1 : (s : Int) + 1 = ci cs (8 + c)
        · have ed : doneS cs k c s n v = ⟨cs, ci cs (16 + c * 2), ci cs (16 + c * 2 + 1)⟩ := by unfold doneS; rw [if_neg k0, if_pos q1]
          obtain ⟨w2, w3⟩ := fin H cs (ci cs (16 + c * 2)) (ci cs (16 + c * 2 + 1)) hl hone x2 x3
          have ra : rd H ⟨h.size, 16 + c * 2, none⟩ 2 = some [.int .i64 (ci cs (16 + c * 2)), .int .i64 (ci cs (16 + c * 2 + 1))] := by
            rw [rd_part x0 (by omega), take_two (hi _ (by omega)) (hi _ (by omega))]
          simp (config := {maxSteps := 2000000, implicitDefEqProofs := false}) only [go_sem, ↓reduceIte, Nat.reduceEqDiff, Nat.reduceAdd, Nat.reduceMul, Nat.reduceLeDiff, Nat.reduceLT, Nat.reduceSub, IntWalk.iteOmega, IntWalk.toNatUp, reduceCtorEq, false_and, and_false, false_or, or_false, true_or, or_true, not_true_eq_false, not_false_eq_true, Bool.not_true, Bool.not_false, Bool.and_true, Bool.true_and, Bool.and_false, Bool.false_and, Bool.not_eq_true, beq_self_eq_true, Nat.add_zero, Int.reduceLE, Int.reduceLT, Int.reduceToNat, Int.reduceNeg, c3, lx, q1]
          refine VS.w (h.size + 1 + 1) [] (.q 0 (.q 1 (.q 2 (.q 3 (.q 4 (.q 5 (.s 6 (.s 7 (.q 8 .nil))))))))) mixed (by kernel_rfl) ?_
          simp (config := {maxSteps := 2000000, implicitDefEqProofs := false}) only [go_sem, ↓reduceIte, Nat.reduceEqDiff, Nat.reduceAdd, Nat.reduceMul, Nat.reduceLeDiff, Nat.reduceLT, Nat.reduceSub, IntWalk.iteOmega, IntWalk.toNatUp, reduceCtorEq, false_and, and_false, false_or, or_false, true_or, or_true, not_true_eq_false, not_false_eq_true, Bool.not_true, Bool.not_false, Bool.and_true, Bool.true_and, Bool.and_false, Bool.false_and, Bool.not_eq_true, beq_self_eq_true, Nat.add_zero, Int.reduceLE, Int.reduceLT, Int.reduceToNat, Int.reduceNeg, e2, c2, cc, ed, r0, ra, w2, w3, hl, hHs, tk, hHb]
          exact bel2 H _ _ hHb
        · simp (config := {maxSteps := 2000000, implicitDefEqProofs := false}) only [go_sem, ↓reduceIte, Nat.reduceEqDiff, Nat.reduceAdd, Nat.reduceMul, Nat.reduceLeDiff, Nat.reduceLT, Nat.reduceSub, IntWalk.iteOmega, IntWalk.toNatUp, reduceCtorEq, false_and, and_false, false_or, or_false, true_or, or_true, not_true_eq_false, not_false_eq_true, Bool.not_true, Bool.not_false, Bool.and_true, Bool.true_and, Bool.and_false, Bool.false_and, Bool.not_eq_true, beq_self_eq_true, Nat.add_zero, Int.reduceLE, Int.reduceLT, Int.reduceToNat, Int.reduceNeg, c3, lx, q1]
          refine VS.q mixed (by kernel_rfl) ?_
          by_cases q2 : (s : Int) < ci cs (8 + c)
          · have ed : doneS cs k c s n v = ⟨cs, 7, 0⟩ := by unfold doneS; rw [if_neg k0, if_neg q1, if_pos q2]
            obtain ⟨w2, w3⟩ := fin H cs 7 0 hl hone x2 x3
            simp (config := {maxSteps := 2000000, implicitDefEqProofs := false}) only [go_sem, ↓reduceIte, Nat.reduceEqDiff, Nat.reduceAdd, Nat.reduceMul, Nat.reduceLeDiff, Nat.reduceLT, Nat.reduceSub, IntWalk.iteOmega, IntWalk.toNatUp, reduceCtorEq, false_and, and_false, false_or, or_false, true_or, or_true, not_true_eq_false, not_false_eq_true, Bool.not_true, Bool.not_false, Bool.and_true, Bool.true_and, Bool.and_false, Bool.false_and, Bool.not_eq_true, beq_self_eq_true, Nat.add_zero, Int.reduceLE, Int.reduceLT, Int.reduceToNat, Int.reduceNeg, c3, lx, q2, e2, ed, r0, w2, w3, hl, hHs, tk, hHb]
            exact bel2 H _ _ hHb
          · have rv : hc H ⟨h.size, 32 + c, none⟩ = some (.bool (cb cs (32 + c))) := by rw [hc_last x0]; exact hb _ (by omega) (by omega)
            by_cases q3 : cb cs (32 + c) = true
            · have ed : doneS cs k c s n v = ⟨cs, 11, 0⟩ := by unfold doneS; rw [if_neg k0, if_neg q1, if_neg q2, if_pos q3]
              obtain ⟨w2, w3⟩ := fin H cs 11 0 hl hone x2 x3
              rw [q3] at rv
              simp (config := {maxSteps := 2000000, implicitDefEqProofs := false}) only [go_sem, ↓reduceIte, Nat.reduceEqDiff, Nat.reduceAdd, Nat.reduceMul, Nat.reduceLeDiff, Nat.reduceLT, Nat.reduceSub, IntWalk.iteOmega, IntWalk.toNatUp, reduceCtorEq, false_and, and_false, false_or, or_false, true_or, or_true, not_true_eq_false, not_false_eq_true, Bool.not_true, Bool.not_false, Bool.and_true, Bool.true_and, Bool.and_false, Bool.false_and, Bool.not_eq_true, beq_self_eq_true, Nat.add_zero, Int.reduceLE, Int.reduceLT, Int.reduceToNat, Int.reduceNeg, c3, lx, q2, c2, cc, rv, e2, ed, r0, w2, w3, hl, hHs, tk, hHb]
              exact bel2 H _ _ hHb
            · have q3' : cb cs (32 + c) = false := by simpa using q3
              rw [q3'] at rv
              have w1 := wr1_get x0 (8 + c) (.int .i64 ((s : Int) + 1))
              rw [if_pos ⟨by omega, rfl⟩] at w1
              have rc := rd_last x1 (n := 5) rfl
              have x1' : (H.setIfInBounds h.size (.cells (cs.set (8 + c) (.int .i64 ((s : Int) + 1))).toArray 54))[h.size + 1]? = some (.cells [.int .i64 k, .int .i64 c, .int .i64 s, .int .i64 n, .int .i64 v].toArray 25) := by rw [Array.getElem?_setIfInBounds, if_neg (by omega)]; exact x1
              have rc' := rd_last x1' (n := 5) rfl
              simp (config := {maxSteps := 2000000, implicitDefEqProofs := false}) only [go_sem, ↓reduceIte, Nat.reduceEqDiff, Nat.reduceAdd, Nat.reduceMul, Nat.reduceLeDiff, Nat.reduceLT, Nat.reduceSub, IntWalk.iteOmega, IntWalk.toNatUp, reduceCtorEq, false_and, and_false, false_or, or_false, true_or, or_true, not_true_eq_false, not_false_eq_true, Bool.not_true, Bool.not_false, Bool.and_true, Bool.true_and, Bool.and_false, Bool.false_and, Bool.not_eq_true, beq_self_eq_true, Nat.add_zero, Int.reduceLE, Int.reduceLT, Int.reduceToNat, Int.reduceNeg, c3, lx, q2, c2, cc, rv, w1, rc']
              have x0' : (H.setIfInBounds h.size (.cells (cs.set (8 + c) (.int .i64 ((s : Int) + 1))).toArray 54))[h.size]? = some (.cells (cs.set (8 + c) (.int .i64 ((s : Int) + 1))).toArray 54) := by rw [Array.getElem?_setIfInBounds, if_pos rfl, if_pos (by omega)]
              have hB1 : Bel h.size h (H.setIfInBounds h.size (.cells (cs.set (8 + c) (.int .i64 ((s : Int) + 1))).toArray 54)) := hHb.addSet (Nat.le_refl _) _
              have x2' : (H.setIfInBounds h.size (.cells (cs.set (8 + c) (.int .i64 ((s : Int) + 1))).toArray 54))[h.size + 2]? = some (.cells storeZ.toArray 54) := by rw [Array.getElem?_setIfInBounds, if_neg (by omega)]; exact x2
              have x3' : (H.setIfInBounds h.size (.cells (cs.set (8 + c) (.int .i64 ((s : Int) + 1))).toArray 54))[h.size + 3]? = some (.cells [.int .i64 0, .int .i64 0].toArray 50) := by rw [Array.getElem?_setIfInBounds, if_neg (by omega)]; exact x3
              have hGs : (H.setIfInBounds h.size (.cells (cs.set (8 + c) (.int .i64 ((s : Int) + 1))).toArray 54)).size = h.size + 6 := by rw [Array.size_setIfInBounds]; exact hHs
              refine (vaultAct_ok T _ h.size (cs.set (8 + c) (.int .i64 ((s : Int) + 1))) k c s n v (by rw [List.length_set]; exact hl) (ints_set (by omega) _ hi) (by omega) (by omega) (by omega) x0').use ?_
              rintro _ g1 ⟨rfl, b1⟩
              rw [actS_last cs k c n v _ (by omega) (by omega)] at b1 ⊢
              have hfA := actS_fit hf k c n v (by omega)
              have ed : doneS cs k c s n v = ⟨((((actS cs k c n v).1.set (8 + c) (.int .i64 ((s : Int) + 1))).set (16 + c * 2) (.int .i64 0)).set (16 + c * 2 + 1) (.int .i64 (actS cs k c n v).2)), 0, (actS cs k c n v).2⟩ := by unfold doneS; rw [if_neg k0, if_neg q1, if_neg q2, if_neg q3]
              obtain ⟨A, hA⟩ : ∃ A, A = (actS cs k c n v).1.set (8 + c) (.int .i64 ((s : Int) + 1)) := ⟨_, rfl⟩
              obtain ⟨a, ha⟩ : ∃ a, a = (actS cs k c n v).2 := ⟨_, rfl⟩
              rw [← hA, ← ha] at ed
              simp only [← hA, ← ha] at b1 ⊢
              have hfA' : fitK storeK A = true := by rw [hA]; exact fitK_set _ _ hfA (storeK_int (by omega) _)
              have hA40 : A.length = 40 := fitK_length hfA'
              obtain ⟨G, hG⟩ : ∃ G : Hp, G = H.setIfInBounds h.size (.cells (cs.set (8 + c) (.int .i64 ((s : Int) + 1))).toArray 54) := ⟨_, rfl⟩
              rw [← hG] at b1 x1' x2' x3' hB1 hGs
              clear x0' rc' hG
              rw [hGs] at b1
              have g0 : g1[h.size]? = some (.cells A.toArray 54) := b1.get (by omega) (by rw [Array.getElem?_setIfInBounds, if_pos rfl, if_pos (by omega)])
              have g1c := b1.get (k := h.size + 1) (by omega) (by rw [Array.getElem?_setIfInBounds, if_neg (by omega)]; exact x1')
              have g2 := b1.get (k := h.size + 2) (by omega) (by rw [Array.getElem?_setIfInBounds, if_neg (by omega)]; exact x2')
              have g3 := b1.get (k := h.size + 3) (by omega) (by rw [Array.getElem?_setIfInBounds, if_neg (by omega)]; exact x3')
              have gs : h.size + 6 ≤ g1.size := by have := b1.size; rw [Array.size_setIfInBounds, hGs] at this; exact this
              have gB : Bel h.size h g1 := (hB1.addSet (Nat.le_refl _) _).trans (b1.mono (by omega))
              clear b1 hB1 x1' x2' x3' hGs
              have gc : hc g1 ⟨h.size + 1, 1, none⟩ = some (.int .i64 c) := by rw [hc_last g1c]; rfl
              have wa := wr_get g0 (16 + c * 2) [.int .i64 0, .int .i64 a]
              rw [if_pos ⟨by simp only [List.length_cons, List.length_nil]; omega, rfl⟩, lput_set, lput_set] at wa
              have wa : wr g1 ⟨h.size, 16 + c * 2, none⟩ [.int .i64 0, .int .i64 a] = some (g1.setIfInBounds h.size (.cells ((A.set (16 + c * 2) (.int .i64 0)).set (16 + c * 2 + 1) (.int .i64 a)).toArray 54)) := by rw [wa]; simp [lput]
              simp (config := {maxSteps := 2000000, implicitDefEqProofs := false}) only [go_sem, ↓reduceIte, Nat.reduceEqDiff, Nat.reduceAdd, Nat.reduceMul, Nat.reduceLeDiff, Nat.reduceLT, Nat.reduceSub, IntWalk.iteOmega, IntWalk.toNatUp, reduceCtorEq, false_and, and_false, false_or, or_false, true_or, or_true, not_true_eq_false, not_false_eq_true, Bool.not_true, Bool.not_false, Bool.and_true, Bool.true_and, Bool.and_false, Bool.false_and, Bool.not_eq_true, beq_self_eq_true, Nat.add_zero, Int.reduceLE, Int.reduceLT, Int.reduceToNat, Int.reduceNeg, gc, cc, wa]
              obtain ⟨D, hD⟩ : ∃ D, D = (A.set (16 + c * 2) (.int .i64 0)).set (16 + c * 2 + 1) (.int .i64 a) := ⟨_, rfl⟩
              have hfD : fitK storeK D = true := by rw [hD]; exact fitK_set _ _ (fitK_set _ _ hfA' (storeK_int (by omega) _)) (storeK_int (by omega) _)
              have hD40 : D.length = 40 := fitK_length hfD
              have hDone := fitK_one hfD
              have tkD := take_len hD40
              rw [← hD] at ed ⊢
              obtain ⟨G, hG⟩ : ∃ G : Hp, G = (g1.setIfInBounds h.size (.cells D.toArray 54)).push (.cells [.int .i64 0, .int .i64 a].toArray 50) := ⟨_, rfl⟩
              have n0 : G[h.size]? = some (.cells D.toArray 54) := by rw [hG]; simp only [Array.getElem?_push, Array.size_setIfInBounds, Array.getElem?_setIfInBounds, IntWalk.iteOmega, ↓reduceIte]
              have n2 : G[h.size + 2]? = some (.cells storeZ.toArray 54) := by rw [hG]; simp only [Array.getElem?_push, Array.size_setIfInBounds, Array.getElem?_setIfInBounds, IntWalk.iteOmega, ↓reduceIte]; exact g2
              have n3 : G[h.size + 3]? = some (.cells [.int .i64 0, .int .i64 0].toArray 50) := by rw [hG]; simp only [Array.getElem?_push, Array.size_setIfInBounds, Array.getElem?_setIfInBounds, IntWalk.iteOmega, ↓reduceIte]; exact g3
              have n6 : G[g1.size]? = some (.cells [.int .i64 0, .int .i64 a].toArray 50) := by rw [hG]; simp only [Array.getElem?_push, Array.size_setIfInBounds, IntWalk.iteOmega, ↓reduceIte]
              have nB : Bel h.size h G := by rw [hG]; exact (gB.addSet (Nat.le_refl _) _).addP (by simp; omega) _
              have nS : G.size = g1.size + 1 := by rw [hG]; simp
              rw [← hG]
              have rA := rd_last n0 hD40
              have rB := rd_last n6 (n := 2) rfl
              obtain ⟨w2, w3⟩ := fin G D 0 a hD40 hDone n2 n3
              refine VS.w (h.size + 1) [2, 3, 4] (.q 0 (.or 1 (.w 2 (.w 3 (.w 4 .nil))) (.s 2 (.s 1 (.w 3 (.w 4 .nil)))))) mixed (by kernel_rfl) ?_
              have z1 : h.size < h.size + 1 := by omega
              have z2 : h.size + 1 + 1 < G.size := by omega
              have z3 : h.size + 1 + 1 + 1 < G.size := by omega
              simp (config := {maxSteps := 2000000, implicitDefEqProofs := false}) only [go_sem, ↓reduceIte, Nat.reduceEqDiff, Nat.reduceAdd, Nat.reduceMul, Nat.reduceLeDiff, Nat.reduceLT, Nat.reduceSub, IntWalk.iteOmega, IntWalk.toNatUp, reduceCtorEq, false_and, and_false, false_or, or_false, true_or, or_true, not_true_eq_false, not_false_eq_true, Bool.not_true, Bool.not_false, Bool.and_true, Bool.true_and, Bool.and_false, Bool.false_and, Bool.not_eq_true, beq_self_eq_true, Nat.add_zero, Int.reduceLE, Int.reduceLT, Int.reduceToNat, Int.reduceNeg, rA, rB, w2, w3, hD40, tkD, z1, z2, z3, ed]
              exact ⟨bel2 G _ _ nB, bel2 G _ _ nB⟩
    · simp (config := {contextual := true, maxSteps := 2000000, implicitDefEqProofs := false}) only [go_sem, ↓reduceIte, Nat.reduceEqDiff, Nat.reduceAdd, Nat.reduceMul, Nat.reduceLeDiff, Nat.reduceLT, Nat.reduceSub, IntWalk.iteOmega, IntWalk.toNatUp, reduceCtorEq, false_and, and_false, false_or, or_false, true_or, or_true, not_true_eq_false, not_false_eq_true, Bool.not_true, Bool.not_false, Bool.and_true, Bool.true_and, Bool.and_false, Bool.false_and, Bool.not_eq_true, beq_self_eq_true, Nat.add_zero, Int.reduceLE, Int.reduceLT, Int.reduceToNat, Int.reduceNeg, e2]
      refine ⟨rfl, ?_⟩
      (repeat' (first | exact Bel.refl _ _ | assumption | refine Bel.add ?_ _ | refine Bel.addSet ?_ (by first | omega | (simp; omega)) _ | refine Bel.trans (by assumption) ?_))
theorem storeDone_ok (T : World) (h : Hp) (cs : List Value) (k c s n v : Int) (hf : fitK storeK cs = true) (hi : ∀ i, i < 32 → nth cs i = some (.int .i64 (ci cs i))) (hb : ∀ i, 32 ≤ i → i < 40 → nth cs i = some (.bool (cb cs i))) :
    CallsH Tryd.prog T 86 #[.agg cs.toArray, .agg (cmdC k c s n v).toArray] h fun v' h' => DoRes v' cs k c s n v ∧ Bel h.size h h' := by
  have hl : cs.length = 40 := fitK_length hf
  have tk := take_len hl
  have hone := fitK_one hf
  refine CallsH.of_code2 (args := [_, _]) Tryd.func86 rfl rfl rfl rfl ?_
  unfold cmdC
  simp (config := {contextual := true, maxSteps := 2000000, implicitDefEqProofs := false}) only [go_sem, ↓reduceIte, Nat.reduceEqDiff, Nat.reduceAdd, Nat.reduceMul, Nat.reduceLeDiff, Nat.reduceLT, Nat.reduceSub, IntWalk.iteOmega, IntWalk.toNatUp, reduceCtorEq, false_and, and_false, false_or, or_false, true_or, or_true, not_true_eq_false, not_false_eq_true, Bool.not_true, Bool.not_false, Bool.and_true, Bool.true_and, Bool.and_false, Bool.false_and, Bool.not_eq_true, beq_self_eq_true, Nat.add_zero, Int.reduceLE, Int.reduceLT, Int.reduceToNat, Int.reduceNeg, hl, tk]
  refine (storeFault_ok T _ cs hl hi).use ?_
  rintro _ _ ⟨rfl, rfl⟩
  unfold DoRes doL doErr
  by_cases e1 : storeBad cs = true
  · simp (config := {contextual := true, maxSteps := 2000000, implicitDefEqProofs := false}) only [go_sem, ↓reduceIte, Nat.reduceEqDiff, Nat.reduceAdd, Nat.reduceMul, Nat.reduceLeDiff, Nat.reduceLT, Nat.reduceSub, IntWalk.iteOmega, IntWalk.toNatUp, reduceCtorEq, false_and, and_false, false_or, or_false, true_or, or_true, not_true_eq_false, not_false_eq_true, Bool.not_true, Bool.not_false, Bool.and_true, Bool.true_and, Bool.and_false, Bool.false_and, Bool.not_eq_true, beq_self_eq_true, Nat.add_zero, Int.reduceLE, Int.reduceLT, Int.reduceToNat, Int.reduceNeg, e1]
    refine ⟨rfl, ?_⟩
    (repeat' (first | exact Bel.refl _ _ | assumption | refine Bel.add ?_ _ | refine Bel.addSet ?_ (by first | omega | (simp; omega)) _ | refine Bel.trans (by assumption) ?_))
  · have e1 : storeBad cs = false := by simpa using e1
    simp (config := {contextual := true, maxSteps := 2000000, implicitDefEqProofs := false}) only [go_sem, ↓reduceIte, Nat.reduceEqDiff, Nat.reduceAdd, Nat.reduceMul, Nat.reduceLeDiff, Nat.reduceLT, Nat.reduceSub, IntWalk.iteOmega, IntWalk.toNatUp, reduceCtorEq, false_and, and_false, false_or, or_false, true_or, or_true, not_true_eq_false, not_false_eq_true, Bool.not_true, Bool.not_false, Bool.and_true, Bool.true_and, Bool.and_false, Bool.false_and, Bool.not_eq_true, beq_self_eq_true, Nat.add_zero, Int.reduceLE, Int.reduceLT, Int.reduceToNat, Int.reduceNeg, e1]
    refine (commandFault_ok T _ k c s n v).use ?_
    rintro _ _ ⟨rfl, rfl⟩
    unfold cmdC
    by_cases e2 : cmdErr k c s n v = 0
    · obtain ⟨k, c, s, n, v, rfl, rfl, rfl, rfl, rfl, y1, y2, y3, y4, y5⟩ := cmdErr_small e2
      simp only [Int.toNat_natCast]
      have hcl : storeZ = [.int .i64 0, .int .i64 0, .int .i64 0, .int .i64 0, .int .i64 0, .int .i64 0, .int .i64 0, .int .i64 0, .int .i64 0, .int .i64 0, .int .i64 0, .int .i64 0, .int .i64 0, .int .i64 0, .int .i64 0, .int .i64 0, .int .i64 0, .int .i64 0, .int .i64 0, .int .i64 0, .int .i64 0, .int .i64 0, .int .i64 0, .int .i64 0, .int .i64 0, .int .i64 0, .int .i64 0, .int .i64 0, .int .i64 0, .int .i64 0, .int .i64 0, .int .i64 0, .bool false, .bool false, .bool false, .bool false, .bool false, .bool false, .bool false, .bool false] := rfl
      obtain ⟨H, hH⟩ : ∃ H : Hp, H = ((((((h.push (.cells cs.toArray 54)).push (.cells [.int .i64 k, .int .i64 c, .int .i64 s, .int .i64 n, .int .i64 v].toArray 25)).push (.cells [.int .i64 0, .int .i64 0, .int .i64 0, .int .i64 0, .int .i64 0, .int .i64 0, .int .i64 0, .int .i64 0, .int .i64 0, .int .i64 0, .int .i64 0, .int .i64 0, .int .i64 0, .int .i64 0, .int .i64 0, .int .i64 0, .int .i64 0, .int .i64 0, .int .i64 0, .int .i64 0, .int .i64 0, .int .i64 0, .int .i64 0, .int .i64 0, .int .i64 0, .int .i64 0, .int .i64 0, .int .i64 0, .int .i64 0, .int .i64 0, .int .i64 0, .int .i64 0, .bool false, .bool false, .bool false, .bool false, .bool false, .bool false, .bool false, .bool false].toArray 54)).push (.cells [.int .i64 0, .int .i64 0].toArray 50)).push (.cells cs.toArray 54)).push (.cells [.int .i64 k, .int .i64 c, .int .i64 s, .int .i64 n, .int .i64 v].toArray 25)) := ⟨_, rfl⟩
      have x0 : H[h.size]? = some (.cells cs.toArray 54) := by rw [hH]; simp only [Array.getElem?_push, Array.size_push, IntWalk.iteOmega, ↓reduceIte]
      have x1 : H[h.size + 1]? = some (.cells [.int .i64 k, .int .i64 c, .int .i64 s, .int .i64 n, .int .i64 v].toArray 25) := by rw [hH]; simp only [Array.getElem?_push, Array.size_push, IntWalk.iteOmega, ↓reduceIte]
      have x2 : H[h.size + 2]? = some (.cells storeZ.toArray 54) := by rw [hH, hcl]; simp only [Array.getElem?_push, Array.size_push, IntWalk.iteOmega, ↓reduceIte]
      have x3 : H[h.size + 3]? = some (.cells [.int .i64 0, .int .i64 0].toArray 50) := by rw [hH]; simp only [Array.getElem?_push, Array.size_push, IntWalk.iteOmega, ↓reduceIte]
      have hHs : H.size = h.size + 6 := by rw [hH]; simp
      have hHb : Bel h.size h H := by rw [hH]; (repeat' (first | exact Bel.refl _ _ | assumption | refine Bel.add ?_ _ | refine Bel.addSet ?_ (by first | omega | (simp; omega)) _ | refine Bel.trans (by assumption) ?_))
      rw [← hH]
      clear hH hcl
      have c1 : hc H ⟨h.size + 1, 0, none⟩ = some (.int .i64 k) := by rw [hc_last x1]; rfl
      have c2 : hc H ⟨h.size + 1, 1, none⟩ = some (.int .i64 c) := by rw [hc_last x1]; rfl
      have c3 : hc H ⟨h.size + 1, 2, none⟩ = some (.int .i64 s) := by rw [hc_last x1]; rfl
      have cc : (c : Int) < 8 := by omega
      have lastc := hi (8 + c) (by omega)
      have lx : hc H ⟨h.size, 8 + c, none⟩ = some (.int .i64 (ci cs (8 + c))) := by rw [hc_last x0]; exact lastc
      have fin : ∀ (G : Hp) (D : List Value) (a b : Int), D.length = 40 → D.all oneC = true → G[h.size + 2]? = some (.cells storeZ.toArray 54) → G[h.size + 3]? = some (.cells [.int .i64 0, .int .i64 0].toArray 50) →
          wr G ⟨h.size + 1 + 1, 0, none⟩ D = some (G.setIfInBounds (h.size + 1 + 1) (.cells D.toArray 54)) ∧
          wr (G.setIfInBounds (h.size + 1 + 1) (.cells D.toArray 54)) ⟨h.size + 1 + 1 + 1, 0, none⟩ [.int .i64 a, .int .i64 b] = some ((G.setIfInBounds (h.size + 1 + 1) (.cells D.toArray 54)).setIfInBounds (h.size + 1 + 1 + 1) (.cells [.int .i64 a, .int .i64 b].toArray 50)) := by
        intro G D a b d1 d2 g2 g3
        refine ⟨?_, ?_⟩
        · rw [wr_get (b := h.size + 1 + 1) g2 0 D, lput_full (by rw [d1]; rfl), if_pos ⟨by rw [d1]; exact Nat.le_refl _, d2⟩]
        · rw [wr_get (b := h.size + 1 + 1 + 1) (l := [.int .i64 0, .int .i64 0]) (t := 50) (by rw [Array.getElem?_setIfInBounds, if_neg (by omega)]; exact g3), if_pos ⟨by simp, rfl⟩]
          rfl
      have r0 := rd_last x0 hl
      have bel2 : ∀ (G : Hp) (o o' : Obj), Bel h.size h G → Bel h.size h ((G.setIfInBounds (h.size + 1 + 1) o).setIfInBounds (h.size + 1 + 1 + 1) o') := fun G o o' hG => (hG.addSet (by omega) _).addSet (by omega) _
      obtain ⟨HH, hHH⟩ : ∃ HH : Hp, HH = H := ⟨_, rfl⟩
      by_cases k0 : k = 0
      · subst k0
        have ed : doneS cs 0 c s n v = ⟨cs, 0, 0⟩ := rfl
        obtain ⟨w2, w3⟩ := fin H cs 0 0 hl hone x2 x3
        simp (config := {maxSteps := 2000000, implicitDefEqProofs := false}) only [go_sem, ↓reduceIte, Nat.reduceEqDiff, Nat.reduceAdd, Nat.reduceMul, Nat.reduceLeDiff, Nat.reduceLT, Nat.reduceSub, IntWalk.iteOmega, IntWalk.toNatUp, reduceCtorEq, false_and, and_false, false_or, or_false, true_or, or_true, not_true_eq_false, not_false_eq_true, Bool.not_true, Bool.not_false, Bool.and_true, Bool.true_and, Bool.and_false, Bool.false_and, Bool.not_eq_true, beq_self_eq_true, Nat.add_zero, Int.reduceLE, Int.reduceLT, Int.reduceToNat, Int.reduceNeg, e2, c1, c2, cc, ed, r0, w2, w3, hl, hHs, tk, hHb]
        exact bel2 H _ _ hHb
      · have k0' : ¬ (k : Int) = 0 := by omega
        simp (config := {maxSteps := 2000000, implicitDefEqProofs := false}) only [go_sem, ↓reduceIte, Nat.reduceEqDiff, Nat.reduceAdd, Nat.reduceMul, Nat.reduceLeDiff, Nat.reduceLT, Nat.reduceSub, IntWalk.iteOmega, IntWalk.toNatUp, reduceCtorEq, false_and, and_false, false_or, or_false, true_or, or_true, not_true_eq_false, not_false_eq_true, Bool.not_true, Bool.not_false, Bool.and_true, Bool.true_and, Bool.and_false, Bool.false_and, Bool.not_eq_true, beq_self_eq_true, Nat.add_zero, Int.reduceLE, Int.reduceLT, Int.reduceToNat, Int.reduceNeg, e2, c1, c2, cc, k0']
        refine VS.q mixed (by kernel_rfl) ?_
        by_cases q2 : (s : Int) < ci cs (8 + c)
        · simp (config := {maxSteps := 2000000, implicitDefEqProofs := false}) only [go_sem, ↓reduceIte, Nat.reduceEqDiff, Nat.reduceAdd, Nat.reduceMul, Nat.reduceLeDiff, Nat.reduceLT, Nat.reduceSub, IntWalk.iteOmega, IntWalk.toNatUp, reduceCtorEq, false_and, and_false, false_or, or_false, true_or, or_true, not_true_eq_false, not_false_eq_true, Bool.not_true, Bool.not_false, Bool.and_true, Bool.true_and, Bool.and_false, Bool.false_and, Bool.not_eq_true, beq_self_eq_true, Nat.add_zero, Int.reduceLE, Int.reduceLT, Int.reduceToNat, Int.reduceNeg, c2, c3, cc, lx, q2]
          refine VS.q mixed (by kernel_rfl) ?_
          by_cases q1 : ci cs (8 + c) = (s : Int) + 1
          · have ed : doneS cs k c s n v = ⟨cs, ci cs (16 + c * 2), ci cs (16 + c * 2 + 1)⟩ := by unfold doneS; rw [if_neg k0, if_pos q1.symm]
            obtain ⟨w2, w3⟩ := fin H cs (ci cs (16 + c * 2)) (ci cs (16 + c * 2 + 1)) hl hone x2 x3
            have ra : rd H ⟨h.size, 16 + c * 2, none⟩ 2 = some [.int .i64 (ci cs (16 + c * 2)), .int .i64 (ci cs (16 + c * 2 + 1))] := by
              rw [rd_part x0 (by omega), take_two (hi _ (by omega)) (hi _ (by omega))]
            simp (config := {maxSteps := 2000000, implicitDefEqProofs := false}) only [go_sem, ↓reduceIte, Nat.reduceEqDiff, Nat.reduceAdd, Nat.reduceMul, Nat.reduceLeDiff, Nat.reduceLT, Nat.reduceSub, IntWalk.iteOmega, IntWalk.toNatUp, reduceCtorEq, false_and, and_false, false_or, or_false, true_or, or_true, not_true_eq_false, not_false_eq_true, Bool.not_true, Bool.not_false, Bool.and_true, Bool.true_and, Bool.and_false, Bool.false_and, Bool.not_eq_true, beq_self_eq_true, Nat.add_zero, Int.reduceLE, Int.reduceLT, Int.reduceToNat, Int.reduceNeg, c2, c3, cc, lx, q1]
            refine VS.w (h.size + 1 + 1) [] (.q 0 (.q 1 (.q 2 (.q 3 (.q 4 (.q 5 (.s 6 (.s 7 (.q 8 .nil))))))))) mixed (by kernel_rfl) ?_
            simp (config := {maxSteps := 2000000, implicitDefEqProofs := false}) only [go_sem, ↓reduceIte, Nat.reduceEqDiff, Nat.reduceAdd, Nat.reduceMul, Nat.reduceLeDiff, Nat.reduceLT, Nat.reduceSub, IntWalk.iteOmega, IntWalk.toNatUp, reduceCtorEq, false_and, and_false, false_or, or_false, true_or, or_true, not_true_eq_false, not_false_eq_true, Bool.not_true, Bool.not_false, Bool.and_true, Bool.true_and, Bool.and_false, Bool.false_and, Bool.not_eq_true, beq_self_eq_true, Nat.add_zero, Int.reduceLE, Int.reduceLT, Int.reduceToNat, Int.reduceNeg, e2, c2, cc, ed, r0, ra, w2, w3, hl, hHs, tk, hHb]
            exact bel2 H _ _ hHb
          · have ed : doneS cs k c s n v = ⟨cs, 7, 0⟩ := by unfold doneS; rw [if_neg k0, if_neg (fun e => q1 e.symm), if_pos q2]
            obtain ⟨w2, w3⟩ := fin H cs 7 0 hl hone x2 x3
            simp (config := {maxSteps := 2000000, implicitDefEqProofs := false}) only [go_sem, ↓reduceIte, Nat.reduceEqDiff, Nat.reduceAdd, Nat.reduceMul, Nat.reduceLeDiff, Nat.reduceLT, Nat.reduceSub, IntWalk.iteOmega, IntWalk.toNatUp, reduceCtorEq, false_and, and_false, false_or, or_false, true_or, or_true, not_true_eq_false, not_false_eq_true, Bool.not_true, Bool.not_false, Bool.and_true, Bool.true_and, Bool.and_false, Bool.false_and, Bool.not_eq_true, beq_self_eq_true, Nat.add_zero, Int.reduceLE, Int.reduceLT, Int.reduceToNat, Int.reduceNeg, c2, c3, cc, lx, q1, e2, ed, r0, w2, w3, hl, hHs, tk, hHb]
            exact bel2 H _ _ hHb
        · have q1 : ¬ (s : Int) + 1 = ci cs (8 + c) := by omega
          have rv : hc H ⟨h.size, 32 + c, none⟩ = some (.bool (cb cs (32 + c))) := by rw [hc_last x0]; exact hb _ (by omega) (by omega)
          by_cases q3 : cb cs (32 + c) = true
          · have ed : doneS cs k c s n v = ⟨cs, 11, 0⟩ := by unfold doneS; rw [if_neg k0, if_neg q1, if_neg q2, if_pos q3]
            obtain ⟨w2, w3⟩ := fin H cs 11 0 hl hone x2 x3
            rw [q3] at rv
            simp (config := {maxSteps := 2000000, implicitDefEqProofs := false}) only [go_sem, ↓reduceIte, Nat.reduceEqDiff, Nat.reduceAdd, Nat.reduceMul, Nat.reduceLeDiff, Nat.reduceLT, Nat.reduceSub, IntWalk.iteOmega, IntWalk.toNatUp, reduceCtorEq, false_and, and_false, false_or, or_false, true_or, or_true, not_true_eq_false, not_false_eq_true, Bool.not_true, Bool.not_false, Bool.and_true, Bool.true_and, Bool.and_false, Bool.false_and, Bool.not_eq_true, beq_self_eq_true, Nat.add_zero, Int.reduceLE, Int.reduceLT, Int.reduceToNat, Int.reduceNeg, c3, lx, q2, c2, cc, rv, e2, ed, r0, w2, w3, hl, hHs, tk, hHb]
            exact bel2 H _ _ hHb
          · have q3' : cb cs (32 + c) = false := by simpa using q3
            rw [q3'] at rv
            have c4 : hc H ⟨h.size + 1, 3, none⟩ = some (.int .i64 n) := by rw [hc_last x1]; rfl
            have c5 : hc H ⟨h.size + 1, 4, none⟩ = some (.int .i64 v) := by rw [hc_last x1]; rfl
            have cn : (n : Int) < 8 := by omega
            simp (config := {maxSteps := 2000000, implicitDefEqProofs := false}) only [go_sem, ↓reduceIte, Nat.reduceEqDiff, Nat.reduceAdd, Nat.reduceMul, Nat.reduceLeDiff, Nat.reduceLT, Nat.reduceSub, IntWalk.iteOmega, IntWalk.toNatUp, reduceCtorEq, false_and, and_false, false_or, or_false, true_or, or_true, not_true_eq_false, not_false_eq_true, Bool.not_true, Bool.not_false, Bool.and_true, Bool.true_and, Bool.and_false, Bool.false_and, Bool.not_eq_true, beq_self_eq_true, Nat.add_zero, Int.reduceLE, Int.reduceLT, Int.reduceToNat, Int.reduceNeg, c3, lx, q2, c2, cc, rv]
            by_cases k1 : k = 1
            · subst k1
              have hact : actS cs 1 c n v = (cs.set n (.int .i64 v), ((v : Nat) : Int)) := rfl
              have hfA := actS_fit hf 1 c n v (by omega)
              rw [hact] at hfA
              have ed : doneS cs 1 c s n v = ⟨((((cs.set n (.int .i64 v)).set (8 + c) (.int .i64 ((s : Int) + 1))).set (16 + c * 2) (.int .i64 0)).set (16 + c * 2 + 1) (.int .i64 (((v : Nat) : Int)))), 0, ((v : Nat) : Int)⟩ := by unfold doneS; rw [if_neg (by decide), if_neg q1, if_neg q2, if_neg q3, hact]
              have w1 : wr1 H ⟨h.size, n, none⟩ (.int .i64 (v : Nat)) = some (H.setIfInBounds h.size (.cells (cs.set n (.int .i64 v)).toArray 54)) := by rw [wr1_get x0, if_pos ⟨by omega, rfl⟩]
              have y1 : (H.setIfInBounds h.size (.cells (cs.set n (.int .i64 v)).toArray 54))[h.size]? = some (.cells (cs.set n (.int .i64 v)).toArray 54) := by rw [Array.getElem?_setIfInBounds, if_pos rfl, if_pos (by omega)]
              have hA40 : (cs.set n (.int .i64 v)).length = 40 := fitK_length hfA
              have w2 : wr1 (H.setIfInBounds h.size (.cells (cs.set n (.int .i64 v)).toArray 54)) ⟨h.size, 8 + c, none⟩ (.int .i64 ((s : Int) + 1)) = some ((H.setIfInBounds h.size (.cells (cs.set n (.int .i64 v)).toArray 54)).setIfInBounds h.size (.cells ((cs.set n (.int .i64 v)).set (8 + c) (.int .i64 ((s : Int) + 1))).toArray 54)) := by rw [wr1_get y1, if_pos ⟨by omega, rfl⟩]
              have y2 : ((H.setIfInBounds h.size (.cells (cs.set n (.int .i64 v)).toArray 54)).setIfInBounds h.size (.cells ((cs.set n (.int .i64 v)).set (8 + c) (.int .i64 ((s : Int) + 1))).toArray 54))[h.size]? = some (.cells ((cs.set n (.int .i64 v)).set (8 + c) (.int .i64 ((s : Int) + 1))).toArray 54) := by rw [Array.getElem?_setIfInBounds, if_pos rfl, if_pos (by simp only [Array.size_setIfInBounds]; omega)]
              have w3 : wr ((H.setIfInBounds h.size (.cells (cs.set n (.int .i64 v)).toArray 54)).setIfInBounds h.size (.cells ((cs.set n (.int .i64 v)).set (8 + c) (.int .i64 ((s : Int) + 1))).toArray 54)) ⟨h.size, 16 + c * 2, none⟩ [.int .i64 0, .int .i64 (((v : Nat) : Int))] = some (((H.setIfInBounds h.size (.cells (cs.set n (.int .i64 v)).toArray 54)).setIfInBounds h.size (.cells ((cs.set n (.int .i64 v)).set (8 + c) (.int .i64 ((s : Int) + 1))).toArray 54)).setIfInBounds h.size (.cells ((((cs.set n (.int .i64 v)).set (8 + c) (.int .i64 ((s : Int) + 1))).set (16 + c * 2) (.int .i64 0)).set (16 + c * 2 + 1) (.int .i64 (((v : Nat) : Int)))).toArray 54)) := by
                rw [wr_get y2, if_pos ⟨by simp only [List.length_cons, List.length_nil, List.length_set]; omega, rfl⟩, lput_set, lput_set]; simp [lput]
              have k0'' : ¬ (1 : Int) = 0 := by decide
              simp (config := {maxSteps := 2000000, implicitDefEqProofs := false}) only [go_sem, ↓reduceIte, Nat.reduceEqDiff, Nat.reduceAdd, Nat.reduceMul, Nat.reduceLeDiff, Nat.reduceLT, Nat.reduceSub, IntWalk.iteOmega, IntWalk.toNatUp, reduceCtorEq, false_and, and_false, false_or, or_false, true_or, or_true, not_true_eq_false, not_false_eq_true, Bool.not_true, Bool.not_false, Bool.and_true, Bool.true_and, Bool.and_false, Bool.false_and, Bool.not_eq_true, beq_self_eq_true, Nat.add_zero, Int.reduceLE, Int.reduceLT, Int.reduceToNat, Int.reduceNeg, c1, c2, c3, c4, c5, cc, cn, hHs, w1, w2, w3, Int.reduceEq]
              obtain ⟨D, hD⟩ : ∃ D, D = ((((cs.set n (.int .i64 v)).set (8 + c) (.int .i64 ((s : Int) + 1))).set (16 + c * 2) (.int .i64 0)).set (16 + c * 2 + 1) (.int .i64 (((v : Nat) : Int)))) := ⟨_, rfl⟩
              have hfD : fitK storeK D = true := by rw [hD]; exact fitK_set _ _ (fitK_set _ _ (fitK_set _ _ hfA (storeK_int (by omega) _)) (storeK_int (by omega) _)) (storeK_int (by omega) _)
              have hD40 : D.length = 40 := fitK_length hfD
              have hDone := fitK_one hfD
              have tkD := take_len hD40
              rw [← hD] at ed ⊢
              obtain ⟨G, hG⟩ : ∃ G : Hp, G = (((H.setIfInBounds h.size (.cells (cs.set n (.int .i64 v)).toArray 54)).setIfInBounds h.size (.cells ((cs.set n (.int .i64 v)).set (8 + c) (.int .i64 ((s : Int) + 1))).toArray 54)).setIfInBounds h.size (.cells D.toArray 54)).push (.cells [.int .i64 0, .int .i64 (((v : Nat) : Int))].toArray 50) := ⟨_, rfl⟩
              have n0 : G[h.size]? = some (.cells D.toArray 54) := by rw [hG]; simp only [Array.getElem?_push, Array.size_setIfInBounds, Array.getElem?_setIfInBounds, IntWalk.iteOmega, ↓reduceIte]
              have n2 : G[h.size + 2]? = some (.cells storeZ.toArray 54) := by rw [hG]; simp only [Array.getElem?_push, Array.size_setIfInBounds, Array.getElem?_setIfInBounds, IntWalk.iteOmega, ↓reduceIte]; exact x2
              have n3 : G[h.size + 3]? = some (.cells [.int .i64 0, .int .i64 0].toArray 50) := by rw [hG]; simp only [Array.getElem?_push, Array.size_setIfInBounds, Array.getElem?_setIfInBounds, IntWalk.iteOmega, ↓reduceIte]; exact x3
              have n6 : G[h.size + 6]? = some (.cells [.int .i64 0, .int .i64 (((v : Nat) : Int))].toArray 50) := by rw [hG]; simp only [Array.getElem?_push, Array.size_setIfInBounds, Array.getElem?_setIfInBounds, IntWalk.iteOmega, ↓reduceIte]
              have nB : Bel h.size h G := by
                rw [hG]
                refine Bel.addP ?_ (by simp only [Array.size_setIfInBounds]; omega) _
                refine Bel.addSet ?_ (Nat.le_refl _) _
                refine Bel.addSet ?_ (Nat.le_refl _) _
                exact hHb.addSet (Nat.le_refl _) _
              have nS : G.size = H.size + 1 := by rw [hG]; simp
              rw [← hG]
              have rA := rd_last n0 hD40
              have rB := rd_last n6 (n := 2) rfl
              obtain ⟨v2, v3⟩ := fin G D 0 (((v : Nat) : Int)) hD40 hDone n2 n3
              refine VS.w (h.size + 1) [2, 3, 4] (.q 0 (.or 1 (.w 2 (.w 3 (.w 4 .nil))) (.s 2 (.s 1 (.w 3 (.w 4 .nil)))))) mixed (by kernel_rfl) ?_
              have z1 : h.size < h.size + 1 := by omega
              have z2 : h.size + 1 + 1 < G.size := by omega
              have z3 : h.size + 1 + 1 + 1 < G.size := by omega
              simp (config := {maxSteps := 2000000, implicitDefEqProofs := false}) only [go_sem, ↓reduceIte, Nat.reduceEqDiff, Nat.reduceAdd, Nat.reduceMul, Nat.reduceLeDiff, Nat.reduceLT, Nat.reduceSub, IntWalk.iteOmega, IntWalk.toNatUp, reduceCtorEq, false_and, and_false, false_or, or_false, true_or, or_true, not_true_eq_false, not_false_eq_true, Bool.not_true, Bool.not_false, Bool.and_true, Bool.true_and, Bool.and_false, Bool.false_and, Bool.not_eq_true, beq_self_eq_true, Nat.add_zero, Int.reduceLE, Int.reduceLT, Int.reduceToNat, Int.reduceNeg, rA, rB, v2, v3, hD40, tkD, z1, z2, z3, ed]
              exact ⟨bel2 G _ _ nB, bel2 G _ _ nB⟩
            · by_cases k2 : k = 2
              · subst k2
                have hact : actS cs 2 c n v = (cs, ci cs n) := rfl
                have hfA := actS_fit hf 2 c n v (by omega)
                rw [hact] at hfA
                have ed : doneS cs 2 c s n v = ⟨((((cs).set (8 + c) (.int .i64 ((s : Int) + 1))).set (16 + c * 2) (.int .i64 0)).set (16 + c * 2 + 1) (.int .i64 (ci cs n))), 0, ci cs n⟩ := by unfold doneS; rw [if_neg (by decide), if_neg q1, if_neg q2, if_neg q3, hact]
                have xn : hc H ⟨h.size, n, none⟩ = some (.int .i64 (ci cs n)) := by rw [hc_last x0]; exact hi n (by omega)
                have y1 := x0
                have hA40 : (cs).length = 40 := fitK_length hfA
                have w2 : wr1 H ⟨h.size, 8 + c, none⟩ (.int .i64 ((s : Int) + 1)) = some (H.setIfInBounds h.size (.cells ((cs).set (8 + c) (.int .i64 ((s : Int) + 1))).toArray 54)) := by rw [wr1_get y1, if_pos ⟨by omega, rfl⟩]
                have y2 : (H.setIfInBounds h.size (.cells ((cs).set (8 + c) (.int .i64 ((s : Int) + 1))).toArray 54))[h.size]? = some (.cells ((cs).set (8 + c) (.int .i64 ((s : Int) + 1))).toArray 54) := by rw [Array.getElem?_setIfInBounds, if_pos rfl, if_pos (by omega)]
                have w3 : wr (H.setIfInBounds h.size (.cells ((cs).set (8 + c) (.int .i64 ((s : Int) + 1))).toArray 54)) ⟨h.size, 16 + c * 2, none⟩ [.int .i64 0, .int .i64 (ci cs n)] = some ((H.setIfInBounds h.size (.cells ((cs).set (8 + c) (.int .i64 ((s : Int) + 1))).toArray 54)).setIfInBounds h.size (.cells ((((cs).set (8 + c) (.int .i64 ((s : Int) + 1))).set (16 + c * 2) (.int .i64 0)).set (16 + c * 2 + 1) (.int .i64 (ci cs n))).toArray 54)) := by
                  rw [wr_get y2, if_pos ⟨by simp only [List.length_cons, List.length_nil, List.length_set]; omega, rfl⟩, lput_set, lput_set]; simp [lput]
                have k0'' : ¬ (2 : Int) = 0 := by decide
                simp (config := {maxSteps := 2000000, implicitDefEqProofs := false}) only [go_sem, ↓reduceIte, Nat.reduceEqDiff, Nat.reduceAdd, Nat.reduceMul, Nat.reduceLeDiff, Nat.reduceLT, Nat.reduceSub, IntWalk.iteOmega, IntWalk.toNatUp, reduceCtorEq, false_and, and_false, false_or, or_false, true_or, or_true, not_true_eq_false, not_false_eq_true, Bool.not_true, Bool.not_false, Bool.and_true, Bool.true_and, Bool.and_false, Bool.false_and, Bool.not_eq_true, beq_self_eq_true, Nat.add_zero, Int.reduceLE, Int.reduceLT, Int.reduceToNat, Int.reduceNeg, c1, c2, c3, c4, c5, cc, cn, hHs, xn, w2, w3, Int.reduceEq]
                obtain ⟨D, hD⟩ : ∃ D, D = ((((cs).set (8 + c) (.int .i64 ((s : Int) + 1))).set (16 + c * 2) (.int .i64 0)).set (16 + c * 2 + 1) (.int .i64 (ci cs n))) := ⟨_, rfl⟩
                have hfD : fitK storeK D = true := by rw [hD]; exact fitK_set _ _ (fitK_set _ _ (fitK_set _ _ hfA (storeK_int (by omega) _)) (storeK_int (by omega) _)) (storeK_int (by omega) _)
                have hD40 : D.length = 40 := fitK_length hfD
                have hDone := fitK_one hfD
                have tkD := take_len hD40
                rw [← hD] at ed ⊢
                obtain ⟨G, hG⟩ : ∃ G : Hp, G = ((H.setIfInBounds h.size (.cells ((cs).set (8 + c) (.int .i64 ((s : Int) + 1))).toArray 54)).setIfInBounds h.size (.cells D.toArray 54)).push (.cells [.int .i64 0, .int .i64 (ci cs n)].toArray 50) := ⟨_, rfl⟩
                have n0 : G[h.size]? = some (.cells D.toArray 54) := by rw [hG]; simp only [Array.getElem?_push, Array.size_setIfInBounds, Array.getElem?_setIfInBounds, IntWalk.iteOmega, ↓reduceIte]
                have n2 : G[h.size + 2]? = some (.cells storeZ.toArray 54) := by rw [hG]; simp only [Array.getElem?_push, Array.size_setIfInBounds, Array.getElem?_setIfInBounds, IntWalk.iteOmega, ↓reduceIte]; exact x2
                have n3 : G[h.size + 3]? = some (.cells [.int .i64 0, .int .i64 0].toArray 50) := by rw [hG]; simp only [Array.getElem?_push, Array.size_setIfInBounds, Array.getElem?_setIfInBounds, IntWalk.iteOmega, ↓reduceIte]; exact x3
                have n6 : G[h.size + 6]? = some (.cells [.int .i64 0, .int .i64 (ci cs n)].toArray 50) := by rw [hG]; simp only [Array.getElem?_push, Array.size_setIfInBounds, Array.getElem?_setIfInBounds, IntWalk.iteOmega, ↓reduceIte]
                have nB : Bel h.size h G := by
                  rw [hG]
                  refine Bel.addP ?_ (by simp only [Array.size_setIfInBounds]; omega) _
                  refine Bel.addSet ?_ (Nat.le_refl _) _
                  refine Bel.addSet ?_ (Nat.le_refl _) _
                  exact hHb
                have nS : G.size = H.size + 1 := by rw [hG]; simp
                rw [← hG]
                have rA := rd_last n0 hD40
                have rB := rd_last n6 (n := 2) rfl
                obtain ⟨v2, v3⟩ := fin G D 0 (ci cs n) hD40 hDone n2 n3
                refine VS.w (h.size + 1) [2, 3, 4] (.q 0 (.or 1 (.w 2 (.w 3 (.w 4 .nil))) (.s 2 (.s 1 (.w 3 (.w 4 .nil)))))) mixed (by kernel_rfl) ?_
                have z1 : h.size < h.size + 1 := by omega
                have z2 : h.size + 1 + 1 < G.size := by omega
                have z3 : h.size + 1 + 1 + 1 < G.size := by omega
                simp (config := {maxSteps := 2000000, implicitDefEqProofs := false}) only [go_sem, ↓reduceIte, Nat.reduceEqDiff, Nat.reduceAdd, Nat.reduceMul, Nat.reduceLeDiff, Nat.reduceLT, Nat.reduceSub, IntWalk.iteOmega, IntWalk.toNatUp, reduceCtorEq, false_and, and_false, false_or, or_false, true_or, or_true, not_true_eq_false, not_false_eq_true, Bool.not_true, Bool.not_false, Bool.and_true, Bool.true_and, Bool.and_false, Bool.false_and, Bool.not_eq_true, beq_self_eq_true, Nat.add_zero, Int.reduceLE, Int.reduceLT, Int.reduceToNat, Int.reduceNeg, rA, rB, v2, v3, hD40, tkD, z1, z2, z3, ed]
                exact ⟨bel2 G _ _ nB, bel2 G _ _ nB⟩
              · obtain rfl : k = 3 := by omega
                have hact : actS cs 3 c n v = (cs.set (32 + n) (.bool true), (0 : Int)) := rfl
                have hfA := actS_fit hf 3 c n v (by omega)
                rw [hact] at hfA
                have ed : doneS cs 3 c s n v = ⟨((((cs.set (32 + n) (.bool true)).set (8 + c) (.int .i64 ((s : Int) + 1))).set (16 + c * 2) (.int .i64 0)).set (16 + c * 2 + 1) (.int .i64 ((0 : Int)))), 0, (0 : Int)⟩ := by unfold doneS; rw [if_neg (by decide), if_neg q1, if_neg q2, if_neg q3, hact]
                have w1 : wr1 H ⟨h.size, (32 + n), none⟩ (.bool true) = some (H.setIfInBounds h.size (.cells (cs.set (32 + n) (.bool true)).toArray 54)) := by rw [wr1_get x0, if_pos ⟨by omega, rfl⟩]
                have y1 : (H.setIfInBounds h.size (.cells (cs.set (32 + n) (.bool true)).toArray 54))[h.size]? = some (.cells (cs.set (32 + n) (.bool true)).toArray 54) := by rw [Array.getElem?_setIfInBounds, if_pos rfl, if_pos (by omega)]
                have hA40 : (cs.set (32 + n) (.bool true)).length = 40 := fitK_length hfA
                have w2 : wr1 (H.setIfInBounds h.size (.cells (cs.set (32 + n) (.bool true)).toArray 54)) ⟨h.size, 8 + c, none⟩ (.int .i64 ((s : Int) + 1)) = some ((H.setIfInBounds h.size (.cells (cs.set (32 + n) (.bool true)).toArray 54)).setIfInBounds h.size (.cells ((cs.set (32 + n) (.bool true)).set (8 + c) (.int .i64 ((s : Int) + 1))).toArray 54)) := by rw [wr1_get y1, if_pos ⟨by omega, rfl⟩]
                have y2 : ((H.setIfInBounds h.size (.cells (cs.set (32 + n) (.bool true)).toArray 54)).setIfInBounds h.size (.cells ((cs.set (32 + n) (.bool true)).set (8 + c) (.int .i64 ((s : Int) + 1))).toArray 54))[h.size]? = some (.cells ((cs.set (32 + n) (.bool true)).set (8 + c) (.int .i64 ((s : Int) + 1))).toArray 54) := by rw [Array.getElem?_setIfInBounds, if_pos rfl, if_pos (by simp only [Array.size_setIfInBounds]; omega)]
                have w3 : wr ((H.setIfInBounds h.size (.cells (cs.set (32 + n) (.bool true)).toArray 54)).setIfInBounds h.size (.cells ((cs.set (32 + n) (.bool true)).set (8 + c) (.int .i64 ((s : Int) + 1))).toArray 54)) ⟨h.size, 16 + c * 2, none⟩ [.int .i64 0, .int .i64 ((0 : Int))] = some (((H.setIfInBounds h.size (.cells (cs.set (32 + n) (.bool true)).toArray 54)).setIfInBounds h.size (.cells ((cs.set (32 + n) (.bool true)).set (8 + c) (.int .i64 ((s : Int) + 1))).toArray 54)).setIfInBounds h.size (.cells ((((cs.set (32 + n) (.bool true)).set (8 + c) (.int .i64 ((s : Int) + 1))).set (16 + c * 2) (.int .i64 0)).set (16 + c * 2 + 1) (.int .i64 ((0 : Int)))).toArray 54)) := by
                  rw [wr_get y2, if_pos ⟨by simp only [List.length_cons, List.length_nil, List.length_set]; omega, rfl⟩, lput_set, lput_set]; simp [lput]
                have k0'' : ¬ (3 : Int) = 0 := by decide
                simp (config := {maxSteps := 2000000, implicitDefEqProofs := false}) only [go_sem, ↓reduceIte, Nat.reduceEqDiff, Nat.reduceAdd, Nat.reduceMul, Nat.reduceLeDiff, Nat.reduceLT, Nat.reduceSub, IntWalk.iteOmega, IntWalk.toNatUp, reduceCtorEq, false_and, and_false, false_or, or_false, true_or, or_true, not_true_eq_false, not_false_eq_true, Bool.not_true, Bool.not_false, Bool.and_true, Bool.true_and, Bool.and_false, Bool.false_and, Bool.not_eq_true, beq_self_eq_true, Nat.add_zero, Int.reduceLE, Int.reduceLT, Int.reduceToNat, Int.reduceNeg, c1, c2, c3, c4, c5, cc, cn, hHs, w1, w2, w3, Int.reduceEq]
                obtain ⟨D, hD⟩ : ∃ D, D = ((((cs.set (32 + n) (.bool true)).set (8 + c) (.int .i64 ((s : Int) + 1))).set (16 + c * 2) (.int .i64 0)).set (16 + c * 2 + 1) (.int .i64 ((0 : Int)))) := ⟨_, rfl⟩
                have hfD : fitK storeK D = true := by rw [hD]; exact fitK_set _ _ (fitK_set _ _ (fitK_set _ _ hfA (storeK_int (by omega) _)) (storeK_int (by omega) _)) (storeK_int (by omega) _)
                have hD40 : D.length = 40 := fitK_length hfD
                have hDone := fitK_one hfD
                have tkD := take_len hD40
                rw [← hD] at ed ⊢
                obtain ⟨G, hG⟩ : ∃ G : Hp, G = (((H.setIfInBounds h.size (.cells (cs.set (32 + n) (.bool true)).toArray 54)).setIfInBounds h.size (.cells ((cs.set (32 + n) (.bool true)).set (8 + c) (.int .i64 ((s : Int) + 1))).toArray 54)).setIfInBounds h.size (.cells D.toArray 54)).push (.cells [.int .i64 0, .int .i64 ((0 : Int))].toArray 50) := ⟨_, rfl⟩
                have n0 : G[h.size]? = some (.cells D.toArray 54) := by rw [hG]; simp only [Array.getElem?_push, Array.size_setIfInBounds, Array.getElem?_setIfInBounds, IntWalk.iteOmega, ↓reduceIte]
                have n2 : G[h.size + 2]? = some (.cells storeZ.toArray 54) := by rw [hG]; simp only [Array.getElem?_push, Array.size_setIfInBounds, Array.getElem?_setIfInBounds, IntWalk.iteOmega, ↓reduceIte]; exact x2
                have n3 : G[h.size + 3]? = some (.cells [.int .i64 0, .int .i64 0].toArray 50) := by rw [hG]; simp only [Array.getElem?_push, Array.size_setIfInBounds, Array.getElem?_setIfInBounds, IntWalk.iteOmega, ↓reduceIte]; exact x3
                have n6 : G[h.size + 6]? = some (.cells [.int .i64 0, .int .i64 ((0 : Int))].toArray 50) := by rw [hG]; simp only [Array.getElem?_push, Array.size_setIfInBounds, Array.getElem?_setIfInBounds, IntWalk.iteOmega, ↓reduceIte]
                have nB : Bel h.size h G := by
                  rw [hG]
                  refine Bel.addP ?_ (by simp only [Array.size_setIfInBounds]; omega) _
                  refine Bel.addSet ?_ (Nat.le_refl _) _
                  refine Bel.addSet ?_ (Nat.le_refl _) _
                  exact hHb.addSet (Nat.le_refl _) _
                have nS : G.size = H.size + 1 := by rw [hG]; simp
                rw [← hG]
                have rA := rd_last n0 hD40
                have rB := rd_last n6 (n := 2) rfl
                obtain ⟨v2, v3⟩ := fin G D 0 ((0 : Int)) hD40 hDone n2 n3
                refine VS.w (h.size + 1) [2, 3, 4] (.q 0 (.or 1 (.w 2 (.w 3 (.w 4 .nil))) (.s 2 (.s 1 (.w 3 (.w 4 .nil)))))) mixed (by kernel_rfl) ?_
                have z1 : h.size < h.size + 1 := by omega
                have z2 : h.size + 1 + 1 < G.size := by omega
                have z3 : h.size + 1 + 1 + 1 < G.size := by omega
                simp (config := {maxSteps := 2000000, implicitDefEqProofs := false}) only [go_sem, ↓reduceIte, Nat.reduceEqDiff, Nat.reduceAdd, Nat.reduceMul, Nat.reduceLeDiff, Nat.reduceLT, Nat.reduceSub, IntWalk.iteOmega, IntWalk.toNatUp, reduceCtorEq, false_and, and_false, false_or, or_false, true_or, or_true, not_true_eq_false, not_false_eq_true, Bool.not_true, Bool.not_false, Bool.and_true, Bool.true_and, Bool.and_false, Bool.false_and, Bool.not_eq_true, beq_self_eq_true, Nat.add_zero, Int.reduceLE, Int.reduceLT, Int.reduceToNat, Int.reduceNeg, rA, rB, v2, v3, hD40, tkD, z1, z2, z3, ed]
                exact ⟨bel2 G _ _ nB, bel2 G _ _ nB⟩
    · simp (config := {contextual := true, maxSteps := 2000000, implicitDefEqProofs := false}) only [go_sem, ↓reduceIte, Nat.reduceEqDiff, Nat.reduceAdd, Nat.reduceMul, Nat.reduceLeDiff, Nat.reduceLT, Nat.reduceSub, IntWalk.iteOmega, IntWalk.toNatUp, reduceCtorEq, false_and, and_false, false_or, or_false, true_or, or_true, not_true_eq_false, not_false_eq_true, Bool.not_true, Bool.not_false, Bool.and_true, Bool.true_and, Bool.and_false, Bool.false_and, Bool.not_eq_true, beq_self_eq_true, Nat.add_zero, Int.reduceLE, Int.reduceLT, Int.reduceToNat, Int.reduceNeg, e2]
      refine ⟨rfl, ?_⟩
      (repeat' (first | exact Bel.refl _ _ | assumption | refine Bel.add ?_ _ | refine Bel.addSet ?_ (by first | omega | (simp; omega)) _ | refine Bel.trans (by assumption) ?_))
theorem doL_form {cs : List Value} (hf : fitK storeK cs = true) (k c s n v : Int) : ∃ (D : List Value) (a b e : Int), doL cs k c s n v = [.agg D.toArray, .agg [.int .i64 a, .int .i64 b].toArray, .int .i64 e] ∧ fitK storeK D = true := by
  unfold doL
  by_cases e : doErr cs k c s n v = 0
  · rw [if_pos e]
    refine ⟨_, _, _, _, rfl, ?_⟩
    have e2 : cmdErr k c s n v = 0 := by
      unfold doErr at e
      split at e
      · cases e
      · exact e
    obtain ⟨k, c, s, n, v, rfl, rfl, rfl, rfl, rfl, y1, y2, y3, y4, y5⟩ := cmdErr_small e2
    exact doneS_fit hf _ _ _ _ _ (by simpa using y4) (by simpa using y2)
  · rw [if_neg e]
    exact ⟨_, _, _, _, rfl, rfl⟩
end Go.Proofs.YtnpacofabdgcdaaDoor
