/- Numbers as lists of digits of base 256: what they are, and the reference's sum; no condition but those in the statements. -/
import Derived.Test.YtjgbajgmndkfjaaWords
import Derived.Test.YtjgbajgmndkfjaaW13
namespace Go.Proofs.Ytjgbajgmndkfjaa
open Go Go.V
set_option linter.unusedSimpArgs false
set_option linter.unusedVariables false
set_option maxRecDepth 100000
/-- What digits of base 256 are, the lowest one first. -/
def valD : List Nat → Nat
  | [] => 0
  | x :: l => x + 256 * valD l
def Dg (l : List Nat) : Prop := ∀ x ∈ l, x < 256
theorem Dg.nil : Dg [] := by intro x hx; cases hx
theorem Dg.getD {l : List Nat} (w : Dg l) (i : Nat) : l.getD i 0 < 256 := getD_byte w i
theorem Dg.snoc {l : List Nat} {x : Nat} (w : Dg l) (hx : x < 256) : Dg (l ++ [x]) := by
  intro y hy
  rcases List.mem_append.1 hy with h | h
  · exact w y h
  · rw [List.mem_singleton.1 h]; exact hx
theorem Dg.set {l : List Nat} {x : Nat} (w : Dg l) (i : Nat) (hx : x < 256) : Dg (l.set i x) := by
  intro y hy
  rcases List.mem_or_eq_of_mem_set hy with h | h
  · exact w y h
  · rw [h]; exact hx
theorem Dg.one {x : Nat} (hx : x < 256) : Dg [x] := by
  intro y hy; rw [List.mem_singleton.1 hy]; exact hx
theorem valD_snoc (l : List Nat) (x : Nat) : valD (l ++ [x]) = valD l + x * 256 ^ l.length := by
  induction l with
  | nil => simp [valD]
  | cons y l ih =>
    simp only [List.cons_append, valD, ih, List.length_cons, Nat.pow_succ]
    rw [Nat.mul_add, ← Nat.add_assoc]
    congr 1
    rw [Nat.mul_comm x, Nat.mul_comm x, ← Nat.mul_assoc, Nat.mul_comm (256 ^ l.length) 256]
theorem valD_take (l : List Nat) (i : Nat) : valD (l.take (i + 1)) = valD (l.take i) + l.getD i 0 * 256 ^ i := by
  by_cases hi : i < l.length
  · rw [take_snoc l i hi, valD_snoc, List.length_take, Nat.min_eq_left (Nat.le_of_lt hi), List.getD_eq_getElem?_getD, List.getElem?_eq_getElem hi]; rfl
  · rw [List.take_of_length_le (by omega), List.take_of_length_le (by omega), List.getD_eq_getElem?_getD, List.getElem?_eq_none (by omega)]; simp
theorem valD_lt {l : List Nat} (w : Dg l) : valD l < 256 ^ l.length := by
  induction l with
  | nil => simp [valD]
  | cons x l ih =>
    have h1 := ih fun y hy => w y (List.mem_cons_of_mem _ hy)
    have h2 := w x List.mem_cons_self
    simp only [valD, List.length_cons, Nat.pow_succ]
    omega
theorem valD_set (l : List Nat) (i x : Nat) (hi : i < l.length) : valD (l.set i x) + l.getD i 0 * 256 ^ i = valD l + x * 256 ^ i := by
  induction l generalizing i with
  | nil => simp at hi
  | cons y l ih =>
    cases i with
    | zero => simp only [List.set_cons_zero, valD, List.getD_cons_zero, Nat.pow_zero, Nat.mul_one]; omega
    | succ i =>
      have := ih i (by simpa using hi)
      simp only [List.set_cons_succ, valD, List.getD_cons_succ, Nat.pow_succ]
      have e1 : l.getD i 0 * (256 ^ i * 256) = 256 * (l.getD i 0 * 256 ^ i) := by rw [← Nat.mul_assoc, Nat.mul_comm]
      have e2 : x * (256 ^ i * 256) = 256 * (x * 256 ^ i) := by rw [← Nat.mul_assoc, Nat.mul_comm]
      rw [e1, e2]; omega
theorem valD_zero (n : Nat) : valD (List.replicate n 0) = 0 := by
  induction n with
  | zero => rfl
  | succ n ih => rw [List.replicate_succ, valD, ih]
/-- A digit of a number. -/
theorem valD_digit {l : List Nat} (w : Dg l) (i : Nat) : l.getD i 0 = valD l / 256 ^ i % 256 := by
  induction l generalizing i with
  | nil => simp [valD]
  | cons x l ih =>
    have hx := w x List.mem_cons_self
    cases i with
    | zero => simp only [List.getD_cons_zero, valD, Nat.pow_zero, Nat.div_one]; omega
    | succ i =>
      rw [List.getD_cons_succ, ih (fun y hy => w y (List.mem_cons_of_mem _ hy)) i, valD, Nat.pow_succ, Nat.mul_comm (256 ^ i) 256, ← Nat.div_div_eq_div_mul]
      congr 2
      omega
abbrev IT (h : Hp) (v : Value) (l : List Nat) : Prop := Ts (fun x => [nv x]) 1 h v l
abbrev IO (B : Nat) (h : Hp) (v : Value) (l : List Nat) : Prop := Ots B 3 (fun x => [nv x]) 1 h v l
theorem digitsOf_ok (T : World) (h : Hp) (v : Value) (l : List Nat) (s : Bs h v l) (hb : ∀ x ∈ l, x < 256) (hl : l.length ≤ 1000000) :
    CallsH Try.prog T 144 #[v] h fun v' h' => IO h.size h' v' l ∧ Bel h.size h h' := by
  obtain ⟨p, cp, rfl, hcs⟩ := Bs.opend s
  refine CallsH.of_code' (args := [_]) Try.func144 rfl rfl rfl rfl ?_
  simp (config := {maxSteps := 2000000, implicitDefEqProofs := false}) only [go_sem, ↓reduceIte, Nat.reduceEqDiff, Nat.reduceAdd, Nat.reduceMul, Nat.reduceLeDiff, Nat.reduceLT, Nat.reduceSub, IntWalk.iteOmega, IntWalk.toNatUp, reduceCtorEq, false_and, and_false, false_or, or_false, true_or, or_true, not_true_eq_false, not_false_eq_true, Bool.not_true, Bool.not_false, Bool.and_true, Bool.true_and, Bool.and_false, Bool.false_and, Bool.not_eq_true, beq_self_eq_true, Nat.add_zero, Int.reduceLE, Int.reduceLT, Int.reduceToNat, Int.reduceNeg]
  refine VS.loop' (fun F g => Bel h.size h g ∧ F 0 = .slice p l.length cp ∧ ∃ i : Nat, i ≤ l.length ∧ F 4 = .int .i64 i ∧ IO h.size g (F 3) (l.take i))
    (fun F _ => l.length - (vi (F 4)).toNat) rfl ⟨Bel.refl _ _, rfl, 0, by omega, rfl, Ots.nil _ _ _ _ _⟩ ?_
  rintro F g ⟨hg, f0, i, hi, f4, ho⟩
  by_cases hlt : i < l.length
  · have hlt' : (i : Int) < l.length := by omega
    obtain ⟨bb, oo, rfl, hbb, hcs⟩ := hcs (by intro e; subst e; simp at hlt)
    have g1 : V.hc g ⟨bb, oo + i, none⟩ = some (.int .u8 (l.getD i 0 : Nat)) := by rw [hg.hc (by exact hbb)]; exact hcs i hlt
    have hby := getD_byte hb i
    simp (config := {maxSteps := 2000000, implicitDefEqProofs := false}) only [go_sem, ↓reduceIte, Nat.reduceEqDiff, Nat.reduceAdd, Nat.reduceMul, Nat.reduceLeDiff, Nat.reduceLT, Nat.reduceSub, IntWalk.iteOmega, IntWalk.toNatUp, reduceCtorEq, false_and, and_false, false_or, or_false, true_or, or_true, not_true_eq_false, not_false_eq_true, Bool.not_true, Bool.not_false, Bool.and_true, Bool.true_and, Bool.and_false, Bool.false_and, Bool.not_eq_true, beq_self_eq_true, Nat.add_zero, Int.reduceLE, Int.reduceLT, Int.reduceToNat, Int.reduceNeg, f0, f4, hlt', g1]
    refine append_ts (E := 3) (B := h.size) (n := 1) (bytes := 8) tsl24 Try.underlying24 tn3 tz3 rfl tb3 (fun _ => rfl) (ho.push _) (by have := hg.size; simp; omega) (Ts.one (enc := fun x => [nv x]) (l.getD i 0) (fun _ => rfl) 1) ?_ (by omega) ?_
    · simp only [List.length_take, List.length_singleton]; omega
    intro v' h' ho' hb' _
    simp (config := {maxSteps := 2000000, implicitDefEqProofs := false}) only [go_sem, ↓reduceIte, Nat.reduceEqDiff, Nat.reduceAdd, Nat.reduceMul, Nat.reduceLeDiff, Nat.reduceLT, Nat.reduceSub, IntWalk.iteOmega, IntWalk.toNatUp, reduceCtorEq, false_and, and_false, false_or, or_false, true_or, or_true, not_true_eq_false, not_false_eq_true, Bool.not_true, Bool.not_false, Bool.and_true, Bool.true_and, Bool.and_false, Bool.false_and, Bool.not_eq_true, beq_self_eq_true, Nat.add_zero, Int.reduceLE, Int.reduceLT, Int.reduceToNat, Int.reduceNeg, f0, f4]
    refine ⟨⟨(hg.addP hg.size _).trans hb', f0, i + 1, hlt, rfl, ?_⟩, ?_⟩
    · rw [take_snoc _ i hlt]
      have e : l.getD i 0 = l[i] := by rw [List.getD_eq_getElem?_getD, List.getElem?_eq_getElem hlt]; rfl
      rw [← e]; exact ho'
    · simp only [vi, updo_some, ↓reduceIte, f4]; omega
  · have hge : ¬ (i : Int) < l.length := by omega
    obtain rfl : i = l.length := by omega
    rw [List.take_length] at ho
    simp (config := {maxSteps := 2000000, implicitDefEqProofs := false}) only [go_sem, ↓reduceIte, Nat.reduceEqDiff, Nat.reduceAdd, Nat.reduceMul, Nat.reduceLeDiff, Nat.reduceLT, Nat.reduceSub, IntWalk.iteOmega, IntWalk.toNatUp, reduceCtorEq, false_and, and_false, false_or, or_false, true_or, or_true, not_true_eq_false, not_false_eq_true, Bool.not_true, Bool.not_false, Bool.and_true, Bool.true_and, Bool.and_false, Bool.false_and, Bool.not_eq_true, beq_self_eq_true, Nat.add_zero, Int.reduceLE, Int.reduceLT, Int.reduceToNat, Int.reduceNeg, f0, f4, hge]
    exact ⟨ho, hg⟩
theorem noDigits_ok (T : World) (h : Hp) (v : Value) (l : List Nat) (s : IT h v l) (hl : l.length ≤ 1000000) :
    CallsH Try.prog T 173 #[v] h fun v' h' => v' = .bool (decide (valD l = 0)) ∧ h' = h := by
  obtain ⟨p, cp, rfl, hcs⟩ := nv_open s
  refine CallsH.of_code' (args := [_]) Try.func173 rfl rfl rfl rfl ?_
  simp (config := {maxSteps := 2000000, implicitDefEqProofs := false}) only [go_sem, ↓reduceIte, Nat.reduceEqDiff, Nat.reduceAdd, Nat.reduceMul, Nat.reduceLeDiff, Nat.reduceLT, Nat.reduceSub, IntWalk.iteOmega, IntWalk.toNatUp, reduceCtorEq, false_and, and_false, false_or, or_false, true_or, or_true, not_true_eq_false, not_false_eq_true, Bool.not_true, Bool.not_false, Bool.and_true, Bool.true_and, Bool.and_false, Bool.false_and, Bool.not_eq_true, beq_self_eq_true, Nat.add_zero, Int.reduceLE, Int.reduceLT, Int.reduceToNat, Int.reduceNeg]
  refine VS.loop' (fun F g => g = h ∧ F 0 = .slice p l.length cp ∧ ∃ i : Nat, i ≤ l.length ∧ F 3 = .int .i64 i ∧ valD l = 256 ^ i * valD (l.drop i))
    (fun F _ => l.length - (vi (F 3)).toNat) rfl ⟨rfl, rfl, 0, by omega, rfl, by simp⟩ ?_
  rintro F g ⟨rfl, f0, i, hi, f3, hz⟩
  by_cases hlt : i < l.length
  · have hlt' : (i : Int) < l.length := by omega
    obtain ⟨bb, oo, rfl, hbb, hcs⟩ := hcs (by intro e; subst e; simp at hlt)
    have g1 := hcs i hlt
    have e : l.getD i 0 = l[i] := by rw [List.getD_eq_getElem?_getD, List.getElem?_eq_getElem hlt]; rfl
    have ed : valD (l.drop i) = l.getD i 0 + 256 * valD (l.drop (i + 1)) := by
      rw [List.drop_eq_getElem_cons hlt, e]; rfl
    have hpos : 0 < 256 ^ i := Nat.pow_pos (by omega)
    by_cases h0 : l.getD i 0 = 0
    · rw [h0] at g1 ed
      simp (config := {maxSteps := 2000000, implicitDefEqProofs := false}) only [go_sem, ↓reduceIte, Nat.reduceEqDiff, Nat.reduceAdd, Nat.reduceMul, Nat.reduceLeDiff, Nat.reduceLT, Nat.reduceSub, IntWalk.iteOmega, IntWalk.toNatUp, reduceCtorEq, false_and, and_false, false_or, or_false, true_or, or_true, not_true_eq_false, not_false_eq_true, Bool.not_true, Bool.not_false, Bool.and_true, Bool.true_and, Bool.and_false, Bool.false_and, Bool.not_eq_true, beq_self_eq_true, Nat.add_zero, Int.reduceLE, Int.reduceLT, Int.reduceToNat, Int.reduceNeg, f0, f3, hlt', g1]
      refine ⟨⟨rfl, f0, i + 1, hlt, rfl, ?_⟩, ?_⟩
      · rw [hz, ed, Nat.pow_succ, Nat.zero_add, Nat.mul_assoc]
      · simp only [vi, updo_some, ↓reduceIte, f3]; omega
    · have h0' : ¬ ((l.getD i 0 : Nat) : Int) = 0 := by omega
      have hne : ¬ valD l = 0 := by
        rw [hz, ed]
        exact Nat.mul_ne_zero (by omega) (by omega)
      have hd : decide (valD l = 0) = false := decide_eq_false hne
      simp (config := {maxSteps := 2000000, implicitDefEqProofs := false}) only [go_sem, ↓reduceIte, Nat.reduceEqDiff, Nat.reduceAdd, Nat.reduceMul, Nat.reduceLeDiff, Nat.reduceLT, Nat.reduceSub, IntWalk.iteOmega, IntWalk.toNatUp, reduceCtorEq, false_and, and_false, false_or, or_false, true_or, or_true, not_true_eq_false, not_false_eq_true, Bool.not_true, Bool.not_false, Bool.and_true, Bool.true_and, Bool.and_false, Bool.false_and, Bool.not_eq_true, beq_self_eq_true, Nat.add_zero, Int.reduceLE, Int.reduceLT, Int.reduceToNat, Int.reduceNeg, f0, f3, hlt', g1, h0', hd]
  · have hge : ¬ (i : Int) < l.length := by omega
    obtain rfl : i = l.length := by omega
    rw [List.drop_length] at hz
    have hd : decide (valD l = 0) = true := decide_eq_true (by rw [hz]; rfl)
    simp (config := {maxSteps := 2000000, implicitDefEqProofs := false}) only [go_sem, ↓reduceIte, Nat.reduceEqDiff, Nat.reduceAdd, Nat.reduceMul, Nat.reduceLeDiff, Nat.reduceLT, Nat.reduceSub, IntWalk.iteOmega, IntWalk.toNatUp, reduceCtorEq, false_and, and_false, false_or, or_false, true_or, or_true, not_true_eq_false, not_false_eq_true, Bool.not_true, Bool.not_false, Bool.and_true, Bool.true_and, Bool.and_false, Bool.false_and, Bool.not_eq_true, beq_self_eq_true, Nat.add_zero, Int.reduceLE, Int.reduceLT, Int.reduceToNat, Int.reduceNeg, f0, f3, hge, hd]
theorem added_step {a b o : List Nat} {i c : Nat} (ho : o.length = i) (hv : valD o + c * 256 ^ i = valD (a.take i) + valD (b.take i)) :
    valD (o ++ [(c + a.getD i 0 + b.getD i 0) % 256]) + (c + a.getD i 0 + b.getD i 0) / 256 * 256 ^ (i + 1) = valD (a.take (i + 1)) + valD (b.take (i + 1)) := by
  rw [valD_snoc, ho, valD_take, valD_take]
  generalize ht : c + a.getD i 0 + b.getD i 0 = t
  have e : t % 256 * 256 ^ i + t / 256 * 256 ^ (i + 1) = t * 256 ^ i := by
    rw [Nat.pow_succ, Nat.mul_comm (256 ^ i) 256, ← Nat.mul_assoc, ← Nat.add_mul]
    congr 1; omega
  have e2 : t * 256 ^ i = c * 256 ^ i + a.getD i 0 * 256 ^ i + b.getD i 0 * 256 ^ i := by rw [← ht, Nat.add_mul, Nat.add_mul]
  omega
theorem getD_none {l : List Nat} {i : Nat} (hi : ¬ i < l.length) : l.getD i 0 = 0 := by
  rw [List.getD_eq_getElem?_getD, List.getElem?_eq_none (by omega)]; rfl
theorem addedDigits_ok (T : World) (h : Hp) (va vb : Value) (a b : List Nat) (sa : IT h va a) (sb : IT h vb b) (wa : Dg a) (wb : Dg b) (hl : a.length + b.length ≤ 1000000) :
    CallsH Try.prog T 145 #[va, vb] h fun v' h' => (∃ o, IO h.size h' v' o ∧ Dg o ∧ valD o = valD a + valD b ∧ o.length ≤ max a.length b.length + 1) ∧ Bel h.size h h' := by
  obtain ⟨p, cp, rfl, hca⟩ := nv_open sa
  obtain ⟨q, cq, rfl, hcb⟩ := nv_open sb
  refine CallsH.of_code' (args := [_, _]) Try.func145 rfl rfl rfl rfl ?_
  simp (config := {maxSteps := 2000000, implicitDefEqProofs := false}) only [go_sem, ↓reduceIte, Nat.reduceEqDiff, Nat.reduceAdd, Nat.reduceMul, Nat.reduceLeDiff, Nat.reduceLT, Nat.reduceSub, IntWalk.iteOmega, IntWalk.toNatUp, reduceCtorEq, false_and, and_false, false_or, or_false, true_or, or_true, not_true_eq_false, not_false_eq_true, Bool.not_true, Bool.not_false, Bool.and_true, Bool.true_and, Bool.and_false, Bool.false_and, Bool.not_eq_true, beq_self_eq_true, Nat.add_zero, Int.reduceLE, Int.reduceLT, Int.reduceToNat, Int.reduceNeg]
  refine VS.loop' (fun F g => Bel h.size h g ∧ F 0 = .slice p a.length cp ∧ F 1 = .slice q b.length cq ∧ ∃ (i c : Nat) (o : List Nat), o.length = i ∧ c ≤ 1 ∧ (i ≤ max a.length b.length ∨ i = max a.length b.length + 1 ∧ c = 0) ∧ F 7 = .int .i64 i ∧ F 6 = .int .i64 c ∧ IO h.size g (F 5) o ∧ Dg o ∧ valD o + c * 256 ^ i = valD (a.take i) + valD (b.take i))
    (fun F _ => max a.length b.length + 2 - (vi (F 7)).toNat) rfl ⟨Bel.refl _ _, rfl, rfl, 0, 0, [], rfl, by omega, by omega, rfl, rfl, Ots.nil _ _ _ _ _, Dg.nil, by simp [valD]⟩ ?_
  rintro F g ⟨hg, f0, f1, i, c, o, hoi, hc, hi, f7, f6, ho, wo, hv⟩
  have hia := wa.getD i
  have hib := wb.getD i
  by_cases ha : i < a.length
  · by_cases hb : i < b.length
    · have ha' : (i : Int) < a.length := by omega
      obtain ⟨ba, oa, rfl, hba, hca⟩ := hca (by intro e; subst e; simp at ha)
      have ga : V.hc g ⟨ba, oa + i, none⟩ = some (.int .i64 (a.getD i 0 : Nat)) := by rw [hg.hc (by exact hba)]; exact hca i ha
      have hb' : (i : Int) < b.length := by omega
      obtain ⟨bb, ob, rfl, hbb, hcb⟩ := hcb (by intro e; subst e; simp at hb)
      have gb : V.hc g ⟨bb, ob + i, none⟩ = some (.int .i64 (b.getD i 0 : Nat)) := by rw [hg.hc (by exact hbb)]; exact hcb i hb
      have hs := added_step hoi hv
      have e1 : ((c : Nat) : Int) + ((a.getD i 0 : Nat) : Int) = ((c + a.getD i 0 : Nat) : Int) := by omega
      have e2 : ((c + a.getD i 0 : Nat) : Int) + ((b.getD i 0 : Nat) : Int) = ((c + a.getD i 0 + b.getD i 0 : Nat) : Int) := by omega
      obtain ⟨t, ht⟩ : ∃ t, t = c + a.getD i 0 + b.getD i 0 := ⟨_, rfl⟩
      have hse : c + a.getD i 0 + b.getD i 0 = t := by omega
      rw [hse] at hs
      rw [← ht] at e2
      have em : ((t : Nat) : Int).tmod 256 = ((t % 256 : Nat) : Int) := rfl
      have ed : ((t : Nat) : Int).tdiv 256 = ((t / 256 : Nat) : Int) := rfl
      have ht2 : t ≤ 511 := by omega
      simp (config := {maxSteps := 2000000, implicitDefEqProofs := false}) only [go_sem, ↓reduceIte, Nat.reduceEqDiff, Nat.reduceAdd, Nat.reduceMul, Nat.reduceLeDiff, Nat.reduceLT, Nat.reduceSub, IntWalk.iteOmega, IntWalk.toNatUp, reduceCtorEq, false_and, and_false, false_or, or_false, true_or, or_true, not_true_eq_false, not_false_eq_true, Bool.not_true, Bool.not_false, Bool.and_true, Bool.true_and, Bool.and_false, Bool.false_and, Bool.not_eq_true, beq_self_eq_true, Nat.add_zero, Int.reduceLE, Int.reduceLT, Int.reduceToNat, Int.reduceNeg, f0, f1, f6, f7, ha', hb', ga, gb, e1, e2, em, ed]
      refine append_ts (E := 3) (B := h.size) (n := 1) (bytes := 8) tsl24 Try.underlying24 tn3 tz3 rfl tb3 (fun _ => rfl) (ho.push _) (by have := hg.size; simp; omega) (Ts.one (enc := fun x => [nv x]) (t % 256) (fun _ => rfl) 1) ?_ (by omega) ?_
      · simp only [List.length_singleton]; omega
      intro v' h' ho' hb2 _
      simp (config := {maxSteps := 2000000, implicitDefEqProofs := false}) only [go_sem, ↓reduceIte, Nat.reduceEqDiff, Nat.reduceAdd, Nat.reduceMul, Nat.reduceLeDiff, Nat.reduceLT, Nat.reduceSub, IntWalk.iteOmega, IntWalk.toNatUp, reduceCtorEq, false_and, and_false, false_or, or_false, true_or, or_true, not_true_eq_false, not_false_eq_true, Bool.not_true, Bool.not_false, Bool.and_true, Bool.true_and, Bool.and_false, Bool.false_and, Bool.not_eq_true, beq_self_eq_true, Nat.add_zero, Int.reduceLE, Int.reduceLT, Int.reduceToNat, Int.reduceNeg, f0, f1, f6, f7, ed]
      refine ⟨⟨(hg.addP hg.size _).trans hb2, f0, f1, i + 1, t / 256, o ++ [t % 256], by rw [List.length_append, hoi]; rfl, by omega, by omega, rfl, rfl, ho', wo.snoc (by omega), hs⟩, ?_⟩
      simp only [vi, updo_some, ↓reduceIte, f7]; omega
    · have ha' : (i : Int) < a.length := by omega
      obtain ⟨ba, oa, rfl, hba, hca⟩ := hca (by intro e; subst e; simp at ha)
      have ga : V.hc g ⟨ba, oa + i, none⟩ = some (.int .i64 (a.getD i 0 : Nat)) := by rw [hg.hc (by exact hba)]; exact hca i ha
      have hb' : ¬ (i : Int) < b.length := by omega
      have gb := getD_none hb
      have hs := added_step hoi hv
      rw [gb] at hs hib
      have e1 : ((c : Nat) : Int) + ((a.getD i 0 : Nat) : Int) = ((c + a.getD i 0 : Nat) : Int) := by omega
      obtain ⟨t, ht⟩ : ∃ t, t = c + a.getD i 0 := ⟨_, rfl⟩
      have hse : c + a.getD i 0 + 0 = t := by omega
      rw [hse] at hs
      rw [← ht] at e1
      have em : ((t : Nat) : Int).tmod 256 = ((t % 256 : Nat) : Int) := rfl
      have ed : ((t : Nat) : Int).tdiv 256 = ((t / 256 : Nat) : Int) := rfl
      have ht2 : t ≤ 511 := by omega
      simp (config := {maxSteps := 2000000, implicitDefEqProofs := false}) only [go_sem, ↓reduceIte, Nat.reduceEqDiff, Nat.reduceAdd, Nat.reduceMul, Nat.reduceLeDiff, Nat.reduceLT, Nat.reduceSub, IntWalk.iteOmega, IntWalk.toNatUp, reduceCtorEq, false_and, and_false, false_or, or_false, true_or, or_true, not_true_eq_false, not_false_eq_true, Bool.not_true, Bool.not_false, Bool.and_true, Bool.true_and, Bool.and_false, Bool.false_and, Bool.not_eq_true, beq_self_eq_true, Nat.add_zero, Int.reduceLE, Int.reduceLT, Int.reduceToNat, Int.reduceNeg, f0, f1, f6, f7, ha', hb', ga, e1, em, ed]
      refine append_ts (E := 3) (B := h.size) (n := 1) (bytes := 8) tsl24 Try.underlying24 tn3 tz3 rfl tb3 (fun _ => rfl) (ho.push _) (by have := hg.size; simp; omega) (Ts.one (enc := fun x => [nv x]) (t % 256) (fun _ => rfl) 1) ?_ (by omega) ?_
      · simp only [List.length_singleton]; omega
      intro v' h' ho' hb2 _
      simp (config := {maxSteps := 2000000, implicitDefEqProofs := false}) only [go_sem, ↓reduceIte, Nat.reduceEqDiff, Nat.reduceAdd, Nat.reduceMul, Nat.reduceLeDiff, Nat.reduceLT, Nat.reduceSub, IntWalk.iteOmega, IntWalk.toNatUp, reduceCtorEq, false_and, and_false, false_or, or_false, true_or, or_true, not_true_eq_false, not_false_eq_true, Bool.not_true, Bool.not_false, Bool.and_true, Bool.true_and, Bool.and_false, Bool.false_and, Bool.not_eq_true, beq_self_eq_true, Nat.add_zero, Int.reduceLE, Int.reduceLT, Int.reduceToNat, Int.reduceNeg, f0, f1, f6, f7, ed]
      refine ⟨⟨(hg.addP hg.size _).trans hb2, f0, f1, i + 1, t / 256, o ++ [t % 256], by rw [List.length_append, hoi]; rfl, by omega, by omega, rfl, rfl, ho', wo.snoc (by omega), hs⟩, ?_⟩
      simp only [vi, updo_some, ↓reduceIte, f7]; omega
  · by_cases hb : i < b.length
    · have ha' : ¬ (i : Int) < a.length := by omega
      have ga := getD_none ha
      have hb' : (i : Int) < b.length := by omega
      obtain ⟨bb, ob, rfl, hbb, hcb⟩ := hcb (by intro e; subst e; simp at hb)
      have gb : V.hc g ⟨bb, ob + i, none⟩ = some (.int .i64 (b.getD i 0 : Nat)) := by rw [hg.hc (by exact hbb)]; exact hcb i hb
      have hs := added_step hoi hv
      rw [ga] at hs hia
      have e1 : ((c : Nat) : Int) + ((b.getD i 0 : Nat) : Int) = ((c + b.getD i 0 : Nat) : Int) := by omega
      obtain ⟨t, ht⟩ : ∃ t, t = c + b.getD i 0 := ⟨_, rfl⟩
      have hse : c + 0 + b.getD i 0 = t := by omega
      rw [hse] at hs
      rw [← ht] at e1
      have em : ((t : Nat) : Int).tmod 256 = ((t % 256 : Nat) : Int) := rfl
      have ed : ((t : Nat) : Int).tdiv 256 = ((t / 256 : Nat) : Int) := rfl
      have ht2 : t ≤ 511 := by omega
      simp (config := {maxSteps := 2000000, implicitDefEqProofs := false}) only [go_sem, ↓reduceIte, Nat.reduceEqDiff, Nat.reduceAdd, Nat.reduceMul, Nat.reduceLeDiff, Nat.reduceLT, Nat.reduceSub, IntWalk.iteOmega, IntWalk.toNatUp, reduceCtorEq, false_and, and_false, false_or, or_false, true_or, or_true, not_true_eq_false, not_false_eq_true, Bool.not_true, Bool.not_false, Bool.and_true, Bool.true_and, Bool.and_false, Bool.false_and, Bool.not_eq_true, beq_self_eq_true, Nat.add_zero, Int.reduceLE, Int.reduceLT, Int.reduceToNat, Int.reduceNeg, f0, f1, f6, f7, ha', hb', gb, e1, em, ed]
      refine append_ts (E := 3) (B := h.size) (n := 1) (bytes := 8) tsl24 Try.underlying24 tn3 tz3 rfl tb3 (fun _ => rfl) (ho.push _) (by have := hg.size; simp; omega) (Ts.one (enc := fun x => [nv x]) (t % 256) (fun _ => rfl) 1) ?_ (by omega) ?_
      · simp only [List.length_singleton]; omega
      intro v' h' ho' hb2 _
      simp (config := {maxSteps := 2000000, implicitDefEqProofs := false}) only [go_sem, ↓reduceIte, Nat.reduceEqDiff, Nat.reduceAdd, Nat.reduceMul, Nat.reduceLeDiff, Nat.reduceLT, Nat.reduceSub, IntWalk.iteOmega, IntWalk.toNatUp, reduceCtorEq, false_and, and_false, false_or, or_false, true_or, or_true, not_true_eq_false, not_false_eq_true, Bool.not_true, Bool.not_false, Bool.and_true, Bool.true_and, Bool.and_false, Bool.false_and, Bool.not_eq_true, beq_self_eq_true, Nat.add_zero, Int.reduceLE, Int.reduceLT, Int.reduceToNat, Int.reduceNeg, f0, f1, f6, f7, ed]
      refine ⟨⟨(hg.addP hg.size _).trans hb2, f0, f1, i + 1, t / 256, o ++ [t % 256], by rw [List.length_append, hoi]; rfl, by omega, by omega, rfl, rfl, ho', wo.snoc (by omega), hs⟩, ?_⟩
      simp only [vi, updo_some, ↓reduceIte, f7]; omega
    · by_cases hc0 : 0 < c
      · have ha' : ¬ (i : Int) < a.length := by omega
        have ga := getD_none ha
        have hb' : ¬ (i : Int) < b.length := by omega
        have gb := getD_none hb
        have hc' : 0 < (c : Int) := by omega
        have hs := added_step hoi hv
        rw [ga] at hs hia
        rw [gb] at hs hib
        obtain ⟨t, ht⟩ : ∃ t, t = c := ⟨_, rfl⟩
        have hse : c + 0 + 0 = t := by omega
        rw [hse] at hs
        obtain rfl : t = c := ht
        have em : ((t : Nat) : Int).tmod 256 = ((t % 256 : Nat) : Int) := rfl
        have ed : ((t : Nat) : Int).tdiv 256 = ((t / 256 : Nat) : Int) := rfl
        have ht2 : t ≤ 511 := by omega
        simp (config := {maxSteps := 2000000, implicitDefEqProofs := false}) only [go_sem, ↓reduceIte, Nat.reduceEqDiff, Nat.reduceAdd, Nat.reduceMul, Nat.reduceLeDiff, Nat.reduceLT, Nat.reduceSub, IntWalk.iteOmega, IntWalk.toNatUp, reduceCtorEq, false_and, and_false, false_or, or_false, true_or, or_true, not_true_eq_false, not_false_eq_true, Bool.not_true, Bool.not_false, Bool.and_true, Bool.true_and, Bool.and_false, Bool.false_and, Bool.not_eq_true, beq_self_eq_true, Nat.add_zero, Int.reduceLE, Int.reduceLT, Int.reduceToNat, Int.reduceNeg, f0, f1, f6, f7, ha', hb', hc', em, ed]
        refine append_ts (E := 3) (B := h.size) (n := 1) (bytes := 8) tsl24 Try.underlying24 tn3 tz3 rfl tb3 (fun _ => rfl) (ho.push _) (by have := hg.size; simp; omega) (Ts.one (enc := fun x => [nv x]) (t % 256) (fun _ => rfl) 1) ?_ (by omega) ?_
        · simp only [List.length_singleton]; omega
        intro v' h' ho' hb2 _
        simp (config := {maxSteps := 2000000, implicitDefEqProofs := false}) only [go_sem, ↓reduceIte, Nat.reduceEqDiff, Nat.reduceAdd, Nat.reduceMul, Nat.reduceLeDiff, Nat.reduceLT, Nat.reduceSub, IntWalk.iteOmega, IntWalk.toNatUp, reduceCtorEq, false_and, and_false, false_or, or_false, true_or, or_true, not_true_eq_false, not_false_eq_true, Bool.not_true, Bool.not_false, Bool.and_true, Bool.true_and, Bool.and_false, Bool.false_and, Bool.not_eq_true, beq_self_eq_true, Nat.add_zero, Int.reduceLE, Int.reduceLT, Int.reduceToNat, Int.reduceNeg, f0, f1, f6, f7, ed]
        refine ⟨⟨(hg.addP hg.size _).trans hb2, f0, f1, i + 1, t / 256, o ++ [t % 256], by rw [List.length_append, hoi]; rfl, by omega, by omega, rfl, rfl, ho', wo.snoc (by omega), hs⟩, ?_⟩
        simp only [vi, updo_some, ↓reduceIte, f7]; omega
      · have ha' : ¬ (i : Int) < a.length := by omega
        have hb' : ¬ (i : Int) < b.length := by omega
        have hc' : ¬ 0 < (c : Int) := by omega
        obtain rfl : c = 0 := by omega
        rw [List.take_of_length_le (by omega), List.take_of_length_le (by omega), Nat.zero_mul, Nat.add_zero] at hv
        simp (config := {maxSteps := 2000000, implicitDefEqProofs := false}) only [go_sem, ↓reduceIte, Nat.reduceEqDiff, Nat.reduceAdd, Nat.reduceMul, Nat.reduceLeDiff, Nat.reduceLT, Nat.reduceSub, IntWalk.iteOmega, IntWalk.toNatUp, reduceCtorEq, false_and, and_false, false_or, or_false, true_or, or_true, not_true_eq_false, not_false_eq_true, Bool.not_true, Bool.not_false, Bool.and_true, Bool.true_and, Bool.and_false, Bool.false_and, Bool.not_eq_true, beq_self_eq_true, Nat.add_zero, Int.reduceLE, Int.reduceLT, Int.reduceToNat, Int.reduceNeg, f0, f1, f6, f7, ha', hb', hc']
        exact ⟨⟨o, ho, wo, hv, by omega⟩, hg⟩
end Go.Proofs.Ytjgbajgmndkfjaa
