/- Numbers as lists of digits of base 256: what they are, and the reference's sum; no condition but those in the statements. -/
import Derived.Test.YtnpacofabdgcdaaDoorWords
import Derived.Test.YtnpacofabdgcdaaDoorW13
namespace Go.Proofs.YtnpacofabdgcdaaDoor
open Go Go.V
set_option linter.unusedSimpArgs false
set_option linter.unusedVariables false
set_option maxRecDepth 100000
/-- What digits of base 256 are, the lowest one first. -/
def valD : List Nat → Nat
  | [] => 0
  | x :: l => x + 256 * valD l
def Dg (l : List Nat) : Prop := ∀ x ∈ l, x < 256
theorem Dg.nil : Dg [] := by intro x hx; cases hx
theorem Dg.getD {l : List Nat} (w : Dg l) (i : Nat) : l.getD i 0 < 256 := getD_byte w i
theorem Dg.snoc {l : List Nat} {x : Nat} (w : Dg l) (hx : x < 256) : Dg (l ++ [x]) := by
  intro y hy
  rcases List.mem_append.1 hy with h | h
  · exact w y h
  · rw [List.mem_singleton.1 h]; exact hx
theorem Dg.set {l : List Nat} {x : Nat} (w : Dg l) (i : Nat) (hx : x < 256) : Dg (l.set i x) := by
  intro y hy
  rcases List.mem_or_eq_of_mem_set hy with h | h
  · exact w y h
  · rw [h]; exact hx
theorem Dg.one {x : Nat} (hx : x < 256) : Dg [x] := by
  intro y hy; rw [List.mem_singleton.1 hy]; exact hx
theorem valD_snoc (l : List Nat) (x : Nat) : valD (l ++ [x]) = valD l + x * 256 ^ l.length := by
  induction l with
  | nil => simp [valD]
  | cons y l ih =>
    simp only [List.cons_append, valD, ih, List.length_cons, Nat.pow_succ]
    rw [Nat.mul_add, ← Nat.add_assoc]
    congr 1
    rw [Nat.mul_comm x, Nat.mul_comm x, ← Nat.mul_assoc, Nat.mul_comm (256 ^ l.length) 256]
theorem valD_take (l : List Nat) (i : Nat) : valD (l.take (i + 1)) = valD (l.take i) + l.getD i 0 * 256 ^ i := by
  by_cases hi : i < l.length
  · rw [take_snoc l i hi, valD_snoc, List.length_take, Nat.min_eq_left (Nat.le_of_lt hi), List.getD_eq_getElem?_getD, List.getElem?_eq_getElem hi]; rfl
  · rw [List.take_of_length_le (by omega), List.take_of_length_le (by omega), List.getD_eq_getElem?_getD, List.getElem?_eq_none (by omega)]; simp
theorem valD_lt {l : List Nat} (w : Dg l) : valD l < 256 ^ l.length := by
  induction l with
  | nil => simp [valD]
  | cons x l ih =>
    have h1 := ih fun y hy => w y (List.mem_cons_of_mem _ hy)
    have h2 := w x List.mem_cons_self
    simp only [valD, List.length_cons, Nat.pow_succ]
    omega
theorem valD_set (l : List Nat) (i x : Nat) (hi : i < l.length) : valD (l.set i x) + l.getD i 0 * 256 ^ i = valD l + x * 256 ^ i := by
  induction l generalizing i with
  | nil => simp at hi
  | cons y l ih =>
    cases i with
    | zero => simp only [List.set_cons_zero, valD, List.getD_cons_zero, Nat.pow_zero, Nat.mul_one]; omega
    | succ i =>
      have := ih i (by simpa using hi)
      simp only [List.set_cons_succ, valD, List.getD_cons_succ, Nat.pow_succ]
      have e1 : l.getD i 0 * (256 ^ i * 256) = 256 * (l.getD i 0 * 256 ^ i) := by rw [← Nat.mul_assoc, Nat.mul_comm]
      have e2 : x * (256 ^ i * 256) = 256 * (x * 256 ^ i) := by rw [← Nat.mul_assoc, Nat.mul_comm]
      rw [e1, e2]; omega
theorem valD_zero (n : Nat) : valD (List.replicate n 0) = 0 := by
  induction n with
  | zero => rfl
  | succ n ih => rw [List.replicate_succ, valD, ih]
/-- A digit of a number. -/
theorem valD_digit {l : List Nat} (w : Dg l) (i : Nat) : l.getD i 0 = valD l / 256 ^ i % 256 := by
  induction l generalizing i with
  | nil => simp [valD]
  | cons x l ih =>
    have hx := w x List.mem_cons_self
    cases i with
    | zero => simp only [List.getD_cons_zero, valD, Nat.pow_zero, Nat.div_one]; omega
    | succ i =>
      rw [List.getD_cons_succ, ih (fun y hy => w y (List.mem_cons_of_mem _ hy)) i, valD, Nat.pow_succ, Nat.mul_comm (256 ^ i) 256, ← Nat.div_div_eq_div_mul]
      congr 2
      omega
abbrev IT (h : Hp) (v : Value) (l : List Nat) : Prop := Ts (fun x => [nv x]) 1 h v l
abbrev IO (B : Nat) (h : Hp) (v : Value) (l : List Nat) : Prop := Ots B 3 (fun x => [nv x]) 1 h v l
theorem digitsOf_ok (T : World) (h : Hp) (v : Value) (l : List Nat) (s : Bs h v l) (hb : ∀ x ∈ l, x < 256) (hl : l.length ≤ 1000000) :
    CallsH Tryd.prog T 226 #[v] h fun v' h' => IO h.size h' v' l ∧ Bel h.size h h' := by
  obtain ⟨p, cp, rfl, hcs⟩ := Bs.opend s
  refine CallsH.of_code' (args := [_]) Tryd.func226 rfl rfl rfl rfl ?_
  simp (config := {maxSteps := 2000000, implicitDefEqProofs := false}) only [go_sem, ↓reduceIte, Nat.reduceEqDiff, Nat.reduceAdd, Nat.reduceMul, Nat.reduceLeDiff, Nat.reduceLT, Nat.reduceSub, IntWalk.iteOmega, IntWalk.toNatUp, reduceCtorEq, Int.reduceLE, Int.reduceLT, Int.reduceToNat, Int.reduceNeg]
  refine VS.loop' (fun F g => Bel h.size h g ∧ F 0 = .slice p l.length cp ∧ ∃ i : Nat, i ≤ l.length ∧ F 4 = .int .i64 i ∧ IO h.size g (F 3) (l.take i))
    (fun F _ => l.length - (vi (F 4)).toNat) rfl ⟨Bel.refl _ _, rfl, 0, by omega, rfl, Ots.nil _ _ _ _ _⟩ ?_
  rintro F g ⟨hg, f0, i, hi, f4, ho⟩
  by_cases hlt : i < l.length
  · have hlt' : (i : Int) < l.length := by omega
    obtain ⟨bb, oo, rfl, hbb, hcs⟩ := hcs (by intro e; subst e; simp at hlt)
    have g1 : V.hc g ⟨bb, oo + i, none⟩ = some (.int .u8 (l.getD i 0 : Nat)) := by rw [hg.hc (by exact hbb)]; exact hcs i hlt
    have hby := getD_byte hb i
    simp (config := {maxSteps := 2000000, implicitDefEqProofs := false}) only [go_sem, ↓reduceIte, Nat.reduceEqDiff, Nat.reduceAdd, Nat.reduceMul, Nat.reduceLeDiff, Nat.reduceLT, Nat.reduceSub, IntWalk.iteOmega, IntWalk.toNatUp, reduceCtorEq, Int.reduceLE, Int.reduceLT, Int.reduceToNat, Int.reduceNeg, f0, f4, hlt', g1]
    refine append_ts (E := 3) (B := h.size) (n := 1) (bytes := 8) tsl155 Tryd.underlying155 tn3 tz3 rfl tb3 (fun _ => rfl) (ho.push _) (by have := hg.size; simp; omega) (Ts.one (enc := fun x => [nv x]) (l.getD i 0) (fun _ => rfl) 1) ?_ (by omega) ?_
    · simp only [List.length_take, List.length_singleton]; omega
    intro v' h' ho' hb' _
    simp (config := {maxSteps := 2000000, implicitDefEqProofs := false}) only [go_sem, ↓reduceIte, Nat.reduceEqDiff, Nat.reduceAdd, Nat.reduceMul, Nat.reduceLeDiff, Nat.reduceLT, Nat.reduceSub, IntWalk.iteOmega, IntWalk.toNatUp, reduceCtorEq, Int.reduceLE, Int.reduceLT, Int.reduceToNat, Int.reduceNeg, f0, f4]
    refine ⟨⟨(hg.addP hg.size _).trans hb', f0, i + 1, hlt, rfl, ?_⟩, ?_⟩
    · rw [take_snoc _ i hlt]
      have e : l.getD i 0 = l[i] := by rw [List.getD_eq_getElem?_getD, List.getElem?_eq_getElem hlt]; rfl
      rw [← e]; exact ho'
    · simp only [vi, updo_some, ↓reduceIte, f4]; omega
  · have hge : ¬ (i : Int) < l.length := by omega
    obtain rfl : i = l.length := by omega
    rw [List.take_length] at ho
    simp (config := {maxSteps := 2000000, implicitDefEqProofs := false}) only [go_sem, ↓reduceIte, Nat.reduceEqDiff, Nat.reduceAdd, Nat.reduceMul, Nat.reduceLeDiff, Nat.reduceLT, Nat.reduceSub, IntWalk.iteOmega, IntWalk.toNatUp, reduceCtorEq, Int.reduceLE, Int.reduceLT, Int.reduceToNat, Int.reduceNeg, f0, f4, hge]
    exact ⟨ho, hg⟩
theorem noDigits_ok (T : World) (h : Hp) (v : Value) (l : List Nat) (s : IT h v l) (hl : l.length ≤ 1000000) :
    CallsH Tryd.prog T 248 #[v] h fun v' h' => v' = .bool (decide (valD l = 0)) ∧ h' = h := by
  obtain ⟨p, cp, rfl, hcs⟩ := nv_open s
  refine CallsH.of_code' (args := [_]) Tryd.func248 rfl rfl rfl rfl ?_
  simp (config := {maxSteps := 2000000, implicitDefEqProofs := false}) only [go_sem, ↓reduceIte, Nat.reduceEqDiff, Nat.reduceAdd, Nat.reduceMul, Nat.reduceLeDiff, Nat.reduceLT, Nat.reduceSub, IntWalk.iteOmega, IntWalk.toNatUp, reduceCtorEq, Int.reduceLE, Int.reduceLT, Int.reduceToNat, Int.reduceNeg]
  refine VS.loop' (fun F g => g = h ∧ F 0 = .slice p l.length cp ∧ ∃ i : Nat, i ≤ l.length ∧ F 3 = .int .i64 i ∧ valD l = 256 ^ i * valD (l.drop i))
    (fun F _ => l.length - (vi (F 3)).toNat) rfl ⟨rfl, rfl, 0, by omega, rfl, by simp⟩ ?_
  rintro F g ⟨rfl, f0, i, hi, f3, hz⟩
  by_cases hlt : i < l.length
  · have hlt' : (i : Int) < l.length := by omega
    obtain ⟨bb, oo, rfl, hbb, hcs⟩ := hcs (by intro e; subst e; simp at hlt)
    have g1 := hcs i hlt
    have e : l.getD i 0 = l[i] := by rw [List.getD_eq_getElem?_getD, List.getElem?_eq_getElem hlt]; rfl
    have ed : valD (l.drop i) = l.getD i 0 + 256 * valD (l.drop (i + 1)) := by
      rw [List.drop_eq_getElem_cons hlt, e]; rfl
    have hpos : 0 < 256 ^ i := Nat.pow_pos (by omega)
    by_cases h0 : l.getD i 0 = 0
    · rw [h0] at g1 ed
      simp (config := {maxSteps := 2000000, implicitDefEqProofs := false}) only [go_sem, ↓reduceIte, Nat.reduceEqDiff, Nat.reduceAdd, Nat.reduceMul, Nat.reduceLeDiff, Nat.reduceLT, Nat.reduceSub, IntWalk.iteOmega, IntWalk.toNatUp, reduceCtorEq, Int.reduceLE, Int.reduceLT, Int.reduceToNat, Int.reduceNeg, f0, f3, hlt', g1]
      refine ⟨⟨rfl, f0, i + 1, hlt, rfl, ?_⟩, ?_⟩
      · rw [hz, ed, Nat.pow_succ, Nat.zero_add, Nat.mul_assoc]
      · simp only [vi, updo_some, ↓reduceIte, f3]; omega
    · have h0' : ¬ ((l.getD i 0 : Nat) : Int) = 0 := by omega
      have hne : ¬ valD l = 0 := by
        rw [hz, ed]
        exact Nat.mul_ne_zero (by omega) (by omega)
      have hd : decide (valD l = 0) = false := decide_eq_false hne
      simp (config := {maxSteps := 2000000, implicitDefEqProofs := false}) only [go_sem, ↓reduceIte, Nat.reduceEqDiff, Nat.reduceAdd, Nat.reduceMul, Nat.reduceLeDiff, Nat.reduceLT, Nat.reduceSub, IntWalk.iteOmega, IntWalk.toNatUp, reduceCtorEq, Int.reduceLE, Int.reduceLT, Int.reduceToNat, Int.reduceNeg, f0, f3, hlt', g1, h0', hd]
  · have hge : ¬ (i : Int) < l.length := by omega
    obtain rfl : i = l.length := by omega
    rw [List.drop_length] at hz
    have hd : decide (valD l = 0) = true := decide_eq_true (by rw [hz]; rfl)
    simp (config := {maxSteps := 2000000, implicitDefEqProofs := false}) only [go_sem, ↓reduceIte, Nat.reduceEqDiff, Nat.reduceAdd, Nat.reduceMul, Nat.reduceLeDiff, Nat.reduceLT, Nat.reduceSub, IntWalk.iteOmega, IntWalk.toNatUp, reduceCtorEq, Int.reduceLE, Int.reduceLT, Int.reduceToNat, Int.reduceNeg, f0, f3, hge, hd]
theorem added_step {a b o : List Nat} {i c : Nat} (ho : o.length = i) (hv : valD o + c * 256 ^ i = valD (a.take i) + valD (b.take i)) :
    valD (o ++ [(c + a.getD i 0 + b.getD i 0) % 256]) + (c + a.getD i 0 + b.getD i 0) / 256 * 256 ^ (i + 1) = valD (a.take (i + 1)) + valD (b.take (i + 1)) := by
  rw [valD_snoc, ho, valD_take, valD_take]
  generalize ht : c + a.getD i 0 + b.getD i 0 = t
  have e : t % 256 * 256 ^ i + t / 256 * 256 ^ (i + 1) = t * 256 ^ i := by
    rw [Nat.pow_succ, Nat.mul_comm (256 ^ i) 256, ← Nat.mul_assoc, ← Nat.add_mul]
    congr 1; omega
  have e2 : t * 256 ^ i = c * 256 ^ i + a.getD i 0 * 256 ^ i + b.getD i 0 * 256 ^ i := by rw [← ht, Nat.add_mul, Nat.add_mul]
  omega
theorem getD_none {l : List Nat} {i : Nat} (hi : ¬ i < l.length) : l.getD i 0 = 0 := by
  rw [List.getD_eq_getElem?_getD, List.getElem?_eq_none (by omega)]; rfl
theorem addedDigits_ok (T : World) (h : Hp) (va vb : Value) (a b : List Nat) (sa : IT h va a) (sb : IT h vb b) (wa : Dg a) (wb : Dg b) (hl : a.length + b.length ≤ 1000000) :
    CallsH Tryd.prog T 227 #[va, vb] h fun v' h' => (∃ o, IO h.size h' v' o ∧ Dg o ∧ valD o = valD a + valD b ∧ o.length ≤ max a.length b.length + 1) ∧ Bel h.size h h' := by
  obtain ⟨p, cp, rfl, hca⟩ := nv_open sa
  obtain ⟨q, cq, rfl, hcb⟩ := nv_open sb
  refine CallsH.of_code' (args := [_, _]) Tryd.func227 rfl rfl rfl rfl ?_
  simp (config := {maxSteps := 2000000, implicitDefEqProofs := false}) only [go_sem, ↓reduceIte, Nat.reduceEqDiff, Nat.reduceAdd, Nat.reduceMul, Nat.reduceLeDiff, Nat.reduceLT, Nat.reduceSub, IntWalk.iteOmega, IntWalk.toNatUp, reduceCtorEq, Int.reduceLE, Int.reduceLT, Int.reduceToNat, Int.reduceNeg]
  refine VS.loop' (fun F g => Bel h.size h g ∧ F 0 = .slice p a.length cp ∧ F 1 = .slice q b.length cq ∧ ∃ (i c : Nat) (o : List Nat), o.length = i ∧ c ≤ 1 ∧ (i ≤ max a.length b.length ∨ i = max a.length b.length + 1 ∧ c = 0) ∧ F 7 = .int .i64 i ∧ F 6 = .int .i64 c ∧ IO h.size g (F 5) o ∧ Dg o ∧ valD o + c * 256 ^ i = valD (a.take i) + valD (b.take i))
    (fun F _ => max a.length b.length + 2 - (vi (F 7)).toNat) rfl ⟨Bel.refl _ _, rfl, rfl, 0, 0, [], rfl, by omega, by omega, rfl, rfl, Ots.nil _ _ _ _ _, Dg.nil, by simp [valD]⟩ ?_
  rintro F g ⟨hg, f0, f1, i, c, o, hoi, hc, hi, f7, f6, ho, wo, hv⟩
  have hia := wa.getD i
  have hib := wb.getD i
  by_cases ha : i < a.length
  · by_cases hb : i < b.length
    · have ha' : (i : Int) < a.length := by omega
      obtain ⟨ba, oa, rfl, hba, hca⟩ := hca (by intro e; subst e; simp at ha)
      have ga : V.hc g ⟨ba, oa + i, none⟩ = some (.int .i64 (a.getD i 0 : Nat)) := by rw [hg.hc (by exact hba)]; exact hca i ha
      have hb' : (i : Int) < b.length := by omega
      obtain ⟨bb, ob, rfl, hbb, hcb⟩ := hcb (by intro e; subst e; simp at hb)
      have gb : V.hc g ⟨bb, ob + i, none⟩ = some (.int .i64 (b.getD i 0 : Nat)) := by rw [hg.hc (by exact hbb)]; exact hcb i hb
      have hs := added_step hoi hv
      have e1 : ((c : Nat) : Int) + ((a.getD i 0 : Nat) : Int) = ((c + a.getD i 0 : Nat) : Int) := by omega
      have e2 : ((c + a.getD i 0 : Nat) : Int) + ((b.getD i 0 : Nat) : Int) = ((c + a.getD i 0 + b.getD i 0 : Nat) : Int) := by omega
      obtain ⟨t, ht⟩ : ∃ t, t = c + a.getD i 0 + b.getD i 0 := ⟨_, rfl⟩
      have hse : c + a.getD i 0 + b.getD i 0 = t := by omega
      rw [hse] at hs
      rw [← ht] at e2
      have em : ((t : Nat) : Int).tmod 256 = ((t % 256 : Nat) : Int) := rfl
      have ed : ((t : Nat) : Int).tdiv 256 = ((t / 256 : Nat) : Int) := rfl
      have ht2 : t ≤ 511 := by omega
      simp (config := {maxSteps := 2000000, implicitDefEqProofs := false}) only [go_sem, ↓reduceIte, Nat.reduceEqDiff, Nat.reduceAdd, Nat.reduceMul, Nat.reduceLeDiff, Nat.reduceLT, Nat.reduceSub, IntWalk.iteOmega, IntWalk.toNatUp, reduceCtorEq, Int.reduceLE, Int.reduceLT, Int.reduceToNat, Int.reduceNeg, f0, f1, f6, f7, ha', hb', ga, gb, e1, e2, em, ed]
      refine append_ts (E := 3) (B := h.size) (n := 1) (bytes := 8) tsl155 Tryd.underlying155 tn3 tz3 rfl tb3 (fun _ => rfl) (ho.push _) (by have := hg.size; simp; omega) (Ts.one (enc := fun x => [nv x]) (t % 256) (fun _ => rfl) 1) ?_ (by omega) ?_
      · simp only [List.length_singleton]; omega
      intro v' h' ho' hb2 _
      simp (config := {maxSteps := 2000000, implicitDefEqProofs := false}) only [go_sem, ↓reduceIte, Nat.reduceEqDiff, Nat.reduceAdd, Nat.reduceMul, Nat.reduceLeDiff, Nat.reduceLT, Nat.reduceSub, IntWalk.iteOmega, IntWalk.toNatUp, reduceCtorEq, Int.reduceLE, Int.reduceLT, Int.reduceToNat, Int.reduceNeg, f0, f1, f6, f7, ed]
      refine ⟨⟨(hg.addP hg.size _).trans hb2, f0, f1, i + 1, t / 256, o ++ [t % 256], by rw [List.length_append, hoi]; rfl, by omega, by omega, rfl, rfl, ho', wo.snoc (by omega), hs⟩, ?_⟩
      simp only [vi, updo_some, ↓reduceIte, f7]; omega
    · have ha' : (i : Int) < a.length := by omega
      obtain ⟨ba, oa, rfl, hba, hca⟩ := hca (by intro e; subst e; simp at ha)
      have ga : V.hc g ⟨ba, oa + i, none⟩ = some (.int .i64 (a.getD i 0 : Nat)) := by rw [hg.hc (by exact hba)]; exact hca i ha
      have hb' : ¬ (i : Int) < b.length := by omega
      have gb := getD_none hb
      have hs := added_step hoi hv
      rw [gb] at hs hib
      have e1 : ((c : Nat) : Int) + ((a.getD i 0 : Nat) : Int) = ((c + a.getD i 0 : Nat) : Int) := by omega
      obtain ⟨t, ht⟩ : ∃ t, t = c + a.getD i 0 := ⟨_, rfl⟩
      have hse : c + a.getD i 0 + 0 = t := by omega
      rw [hse] at hs
      rw [← ht] at e1
      have em : ((t : Nat) : Int).tmod 256 = ((t % 256 : Nat) : Int) := rfl
      have ed : ((t : Nat) : Int).tdiv 256 = ((t / 256 : Nat) : Int) := rfl
      have ht2 : t ≤ 511 := by omega
      simp (config := {maxSteps := 2000000, implicitDefEqProofs := false}) only [go_sem, ↓reduceIte, Nat.reduceEqDiff, Nat.reduceAdd, Nat.reduceMul, Nat.reduceLeDiff, Nat.reduceLT, Nat.reduceSub, IntWalk.iteOmega, IntWalk.toNatUp, reduceCtorEq, Int.reduceLE, Int.reduceLT, Int.reduceToNat, Int.reduceNeg, f0, f1, f6, f7, ha', hb', ga, e1, em, ed]
      refine append_ts (E := 3) (B := h.size) (n := 1) (bytes := 8) tsl155 Tryd.underlying155 tn3 tz3 rfl tb3 (fun _ => rfl) (ho.push _) (by have := hg.size; simp; omega) (Ts.one (enc := fun x => [nv x]) (t % 256) (fun _ => rfl) 1) ?_ (by omega) ?_
      · simp only [List.length_singleton]; omega
      intro v' h' ho' hb2 _
      simp (config := {maxSteps := 2000000, implicitDefEqProofs := false}) only [go_sem, ↓reduceIte, Nat.reduceEqDiff, Nat.reduceAdd, Nat.reduceMul, Nat.reduceLeDiff, Nat.reduceLT, Nat.reduceSub, IntWalk.iteOmega, IntWalk.toNatUp, reduceCtorEq, Int.reduceLE, Int.reduceLT, Int.reduceToNat, Int.reduceNeg, f0, f1, f6, f7, ed]
      refine ⟨⟨(hg.addP hg.size _).trans hb2, f0, f1, i + 1, t / 256, o ++ [t % 256], by rw [List.length_append, hoi]; rfl, by omega, by omega, rfl, rfl, ho', wo.snoc (by omega), hs⟩, ?_⟩
      simp only [vi, updo_some, ↓reduceIte, f7]; omega
  · by_cases hb : i < b.length
    · have ha' : ¬ (i : Int) < a.length := by omega
      have ga := getD_none ha
      have hb' : (i : Int) < b.length := by omega
      obtain ⟨bb, ob, rfl, hbb, hcb⟩ := hcb (by intro e; subst e; simp at hb)
      have gb : V.hc g ⟨bb, ob + i, none⟩ = some (.int .i64 (b.getD i 0 : Nat)) := by rw [hg.hc (by exact hbb)]; exact hcb i hb
      have hs := added_step hoi hv
      rw [ga] at hs hia
      have e1 : ((c : Nat) : Int) + ((b.getD i 0 : Nat) : Int) = ((c + b.getD i 0 : Nat) : Int) := by omega
      obtain ⟨t, ht⟩ : ∃ t, t = c + b.getD i 0 := ⟨_, rfl⟩
      have hse : c + 0 + b.getD i 0 = t := by omega
      rw [hse] at hs
      rw [← ht] at e1
      have em : ((t : Nat) : Int).tmod 256 = ((t % 256 : Nat) : Int) := rfl
      have ed : ((t : Nat) : Int).tdiv 256 = ((t / 256 : Nat) : Int) := rfl
      have ht2 : t ≤ 511 := by omega
      simp (config := {maxSteps := 2000000, implicitDefEqProofs := false}) only [go_sem, ↓reduceIte, Nat.reduceEqDiff, Nat.reduceAdd, Nat.reduceMul, Nat.reduceLeDiff, Nat.reduceLT, Nat.reduceSub, IntWalk.iteOmega, IntWalk.toNatUp, reduceCtorEq, Int.reduceLE, Int.reduceLT, Int.reduceToNat, Int.reduceNeg, f0, f1, f6, f7, ha', hb', gb, e1, em, ed]
      refine append_ts (E := 3) (B := h.size) (n := 1) (bytes := 8) tsl155 Tryd.underlying155 tn3 tz3 rfl tb3 (fun _ => rfl) (ho.push _) (by have := hg.size; simp; omega) (Ts.one (enc := fun x => [nv x]) (t % 256) (fun _ => rfl) 1) ?_ (by omega) ?_
      · simp only [List.length_singleton]; omega
      intro v' h' ho' hb2 _
      simp (config := {maxSteps := 2000000, implicitDefEqProofs := false}) only [go_sem, ↓reduceIte, Nat.reduceEqDiff, Nat.reduceAdd, Nat.reduceMul, Nat.reduceLeDiff, Nat.reduceLT, Nat.reduceSub, IntWalk.iteOmega, IntWalk.toNatUp, reduceCtorEq, Int.reduceLE, Int.reduceLT, Int.reduceToNat, Int.reduceNeg, f0, f1, f6, f7, ed]
      refine ⟨⟨(hg.addP hg.size _).trans hb2, f0, f1, i + 1, t / 256, o ++ [t % 256], by rw [List.length_append, hoi]; rfl, by omega, by omega, rfl, rfl, ho', wo.snoc (by omega), hs⟩, ?_⟩
      simp only [vi, updo_some, ↓reduceIte, f7]; omega
    · by_cases hc0 : 0 < c
      · have ha' : ¬ (i : Int) < a.length := by omega
        have ga := getD_none ha
        have hb' : ¬ (i : Int) < b.length := by omega
        have gb := getD_none hb
        have hc' : 0 < (c : Int) := by omega
        have hs := added_step hoi hv
        rw [ga] at hs hia
        rw [gb] at hs hib
        obtain ⟨t, ht⟩ : ∃ t, t = c := ⟨_, rfl⟩
        have hse : c + 0 + 0 = t := by omega
        rw [hse] at hs
        obtain rfl : t = c := ht
        have em : ((t : Nat) : Int).tmod 256 = ((t % 256 : Nat) : Int) := rfl
        have ed : ((t : Nat) : Int).tdiv 256 = ((t / 256 : Nat) : Int) := rfl
        have ht2 : t ≤ 511 := by omega
        simp (config := {maxSteps := 2000000, implicitDefEqProofs := false}) only [go_sem, ↓reduceIte, Nat.reduceEqDiff, Nat.reduceAdd, Nat.reduceMul, Nat.reduceLeDiff, Nat.reduceLT, Nat.reduceSub, IntWalk.iteOmega, IntWalk.toNatUp, reduceCtorEq, Int.reduceLE, Int.reduceLT, Int.reduceToNat, Int.reduceNeg, f0, f1, f6, f7, ha', hb', hc', em, ed]
        refine append_ts (E := 3) (B := h.size) (n := 1) (bytes := 8) tsl155 Tryd.underlying155 tn3 tz3 rfl tb3 (fun _ => rfl) (ho.push _) (by have := hg.size; simp; omega) (Ts.one (enc := fun x => [nv x]) (t % 256) (fun _ => rfl) 1) ?_ (by omega) ?_
        · simp only [List.length_singleton]; omega
        intro v' h' ho' hb2 _
        simp (config := {maxSteps := 2000000, implicitDefEqProofs := false}) only [go_sem, ↓reduceIte, Nat.reduceEqDiff, Nat.reduceAdd, Nat.reduceMul, Nat.reduceLeDiff, Nat.reduceLT, Nat.reduceSub, IntWalk.iteOmega, IntWalk.toNatUp, reduceCtorEq, Int.reduceLE, Int.reduceLT, Int.reduceToNat, Int.reduceNeg, f0, f1, f6, f7, ed]
        refine ⟨⟨(hg.addP hg.size _).trans hb2, f0, f1, i + 1, t / 256, o ++ [t % 256], by rw [List.length_append, hoi]; rfl, by omega, by omega, rfl, rfl, ho', wo.snoc (by omega), hs⟩, ?_⟩
        simp only [vi, updo_some, ↓reduceIte, f7]; omega
      · have ha' : ¬ (i : Int) < a.length := by omega
        have hb' : ¬ (i : Int) < b.length := by omega
        have hc' : ¬ 0 < (c : Int) := by omega
        obtain rfl : c = 0 := by omega
        rw [List.take_of_length_le (by omega), List.take_of_length_le (by omega), Nat.zero_mul, Nat.add_zero] at hv
        simp (config := {maxSteps := 2000000, implicitDefEqProofs := false}) only [go_sem, ↓reduceIte, Nat.reduceEqDiff, Nat.reduceAdd, Nat.reduceMul, Nat.reduceLeDiff, Nat.reduceLT, Nat.reduceSub, IntWalk.iteOmega, IntWalk.toNatUp, reduceCtorEq, Int.reduceLE, Int.reduceLT, Int.reduceToNat, Int.reduceNeg, f0, f1, f6, f7, ha', hb', hc']
        exact ⟨⟨o, ho, wo, hv, by omega⟩, hg⟩
end Go.Proofs.YtnpacofabdgcdaaDoor
namespace Go.Proofs.YtnpacofabdgcdaaDoor
open Go Go.V
set_option linter.unusedSimpArgs false
set_option linter.unusedVariables false
set_option maxRecDepth 100000
def uv (x : Nat) : Value := .int .u64 (x : Nat)
def W26 : Nat := 67108864
def numL (n top : Nat) : List Nat := [n % 67108864, n / 67108864 % 67108864, n / 4503599627370496 % 67108864, n / 302231454903657293676544 % 67108864, n / 20282409603651670423947251286016 + top * 16777216]
theorem shl_u64 (x n : Nat) (hn : n ≤ 64) : shlOp .u64 (x : Int) (n : Int) = ((x * 2 ^ n % 18446744073709551616 : Nat) : Int) := by
  rw [shl_nat .u64 x n (by show n ≤ 64; omega), wrap_u64_mod]; rfl
theorem shr_u64 (x n : Nat) (hn : n ≤ 64) : shrOp .u64 (x : Int) (n : Int) = ((x / 2 ^ n : Nat) : Int) := by
  rw [shr_nat .u64 x n (by show n ≤ 64; omega), Nat.shiftRight_eq_div_pow]
theorem mask26 (x : Nat) (hx : x < 18446744073709551616) : bitOp .and .u64 (x : Int) 67108863 = ((x % 67108864 : Nat) : Int) := by
  have h := and_u64 x 67108863 hx (by decide)
  have e : x &&& 67108863 = x % 67108864 := Nat.and_two_pow_sub_one_eq_mod x 26
  rw [e] at h
  exact h
theorem byte_in (L b : Nat) (hL : L < 72057594037927936) (hb : b < 256) : bitOp .or .u64 ((L * 256 : Nat) : Int) (b : Int) = ((L * 256 + b : Nat) : Int) := by
  rw [or_u64 _ _ (by omega) (by omega), or_add (k := 8) (by omega) (by omega)]
theorem shl8 (L : Nat) (hL : L < 72057594037927936) : shlOp .u64 (L : Int) 8 = ((L * 256 : Nat) : Int) := by
  have h := shl_u64 L 8 (by decide)
  rw [show L * 2 ^ 8 % 18446744073709551616 = L * 256 by omega] at h
  exact h
theorem drop_val {l : List Nat} {m : Nat} (hm : m < l.length) : valD (l.drop m) = l.getD m 0 + 256 * valD (l.drop (m + 1)) := by
  rw [List.drop_eq_getElem_cons hm]
  have e : l.getD m 0 = l[m] := by rw [List.getD_eq_getElem?_getD, List.getElem?_eq_getElem hm]; rfl
  rw [e]; rfl
theorem Dg.drop {l : List Nat} (w : Dg l) (i : Nat) : Dg (l.drop i) := fun x hx => w x (List.mem_of_mem_drop hx)
theorem valD_lt_of {l : List Nat} (w : Dg l) {n : Nat} (hn : l.length ≤ n) : valD l < 256 ^ n := Nat.lt_of_lt_of_le (valD_lt w) (Nat.pow_le_pow_right (by omega) hn)
set_option maxHeartbeats 1000000 in
theorem number_ok (T : World) (h : Hp) (v : Value) (l : List Nat) (top : Nat) (s : Bs h v l) (hl : l.length = 16) (ht : top ≤ 1) :
    CallsH Tryd.prog T 243 #[v, .int .u64 top] h fun v' h' => v' = .agg ((numL (valD l) top).map uv).toArray ∧ Bel h.size h h' := by
  have wb := s.byte
  obtain ⟨p, c, rfl, hc⟩ := s.opend
  obtain ⟨bb, oo, rfl, hbb, hc⟩ := hc (by intro e; subst e; simp at hl)
  obtain ⟨lo, hi, rfl, hlo, hhi⟩ : ∃ lo hi : List Nat, l = lo ++ hi ∧ lo.length = 8 ∧ hi.length = 8 := ⟨l.take 8, l.drop 8, (List.take_append_drop 8 l).symm, by rw [List.length_take]; omega, by rw [List.length_drop]; omega⟩
  have wlo : Dg lo := fun x hx => wb x (List.mem_append_left _ hx)
  have whi : Dg hi := fun x hx => wb x (List.mem_append_right _ hx)
  refine CallsH.of_code' (args := [_, _]) Tryd.func243 rfl rfl rfl rfl ?_
  simp (config := {maxSteps := 2000000, implicitDefEqProofs := false}) only [go_sem, ↓reduceIte, Nat.reduceEqDiff, Nat.reduceAdd, Nat.reduceMul, Nat.reduceLeDiff, Nat.reduceLT, Nat.reduceSub, IntWalk.iteOmega, IntWalk.toNatUp, reduceCtorEq, Int.reduceLE, Int.reduceLT, Int.reduceToNat, Int.reduceNeg]
  obtain ⟨Z, hZ⟩ : ∃ Z : Obj, Z = .cells #[.int .u64 0, .int .u64 0, .int .u64 0, .int .u64 0, .int .u64 0] 262 := ⟨_, rfl⟩
  refine VS.loop' (fun F g => g = h.push (.cells #[.int .u64 0, .int .u64 0, .int .u64 0, .int .u64 0, .int .u64 0] 262) ∧ F 0 = .slice (some ⟨bb, oo, none⟩) (lo ++ hi).length c ∧ F 1 = .int .u64 top ∧ F 4 = .pointer (some ⟨h.size, 0, none⟩) ∧ ∃ j : Nat, j ≤ 8 ∧ F 7 = .int .i64 ((j : Int) - 1) ∧ F 5 = .int .u64 (valD (lo.drop j) : Nat) ∧ F 6 = .int .u64 (valD (hi.drop j) : Nat))
    (fun F _ => (vi (F 7) + 1).toNat) rfl ⟨rfl, rfl, rfl, rfl, 8, by omega, rfl, by rw [List.drop_of_length_le (by omega)]; rfl, by rw [List.drop_of_length_le (by omega)]; rfl⟩ ?_
  rintro F g ⟨rfl, f0, f1, f4, j, hj, f7, f5, f6⟩
  by_cases hlt : 0 < j
  · obtain ⟨m, rfl⟩ : ∃ m, j = m + 1 := ⟨j - 1, by omega⟩
    have e1 : ((m + 1 : Nat) : Int) - 1 = (m : Nat) := by omega
    rw [e1] at f7
    have g1 := hc m (by omega)
    have g2 := hc (8 + m) (by omega)
    have d1 : (lo ++ hi).getD m 0 = lo.getD m 0 := by rw [List.getD_eq_getElem?_getD, List.getElem?_append_left (by omega), List.getD_eq_getElem?_getD]
    have d2 : (lo ++ hi).getD (8 + m) 0 = hi.getD m 0 := by rw [List.getD_eq_getElem?_getD, List.getElem?_append_right (by omega), hlo, Nat.add_sub_cancel_left, List.getD_eq_getElem?_getD]
    rw [d1] at g1
    rw [d2] at g2
    have x1 := wlo.getD m
    have x2 := whi.getD m
    have n1 : valD (lo.drop m) = valD (lo.drop (m + 1)) * 256 + lo.getD m 0 := by rw [drop_val (l := lo) (by omega)]; omega
    have n2 : valD (hi.drop m) = valD (hi.drop (m + 1)) * 256 + hi.getD m 0 := by rw [drop_val (l := hi) (by omega)]; omega
    have b1 := valD_lt_of (wlo.drop (m + 1)) (n := 7) (by rw [List.length_drop]; omega)
    have b2 := valD_lt_of (whi.drop (m + 1)) (n := 7) (by rw [List.length_drop]; omega)
    rw [show 256 ^ 7 = 72057594037927936 from rfl] at b1 b2
    have s1 := shl8 _ b1
    have s2 := shl8 _ b2
    have o1 := byte_in _ _ b1 x1
    have o2 := byte_in _ _ b2 x2
    have em : (8 : Int) + (m : Int) = ((8 + m : Nat) : Int) := by omega
    have k1 : (m : Int) < (lo ++ hi).length := by omega
    have k2 : ((8 + m : Nat) : Int) < (lo ++ hi).length := by omega
    have k0 : (0 : Int) ≤ m := by omega
    have hbb' : bb < h.size := hbb
    have m1 : ((lo.getD m 0 : Nat) : Int) % 18446744073709551616 = (lo.getD m 0 : Nat) := by omega
    have m2 : ((hi.getD m 0 : Nat) : Int) % 18446744073709551616 = (hi.getD m 0 : Nat) := by omega
    simp (config := {maxSteps := 2000000, implicitDefEqProofs := false}) only [go_sem, ↓reduceIte, Nat.reduceEqDiff, Nat.reduceAdd, Nat.reduceMul, Nat.reduceLeDiff, Nat.reduceLT, Nat.reduceSub, IntWalk.iteOmega, IntWalk.toNatUp, reduceCtorEq, Int.reduceLE, Int.reduceLT, Int.reduceToNat, Int.reduceNeg, f0, f1, f4, f5, f6, f7, m1, m2, k0, k1, k2, em, Int.toNat_natCast, hbb', g1, g2, s1, s2, o1, o2]
    refine ⟨⟨rfl, f0, f1, f4, m, by omega, rfl, ?_, ?_⟩, ?_⟩
    · rw [n1]; rfl
    · rw [n2]; rfl
    · simp only [vi, updo_some, ↓reduceIte, f7]; omega
  · obtain rfl : j = 0 := by omega
    rw [List.drop_zero] at f5 f6
    have k0 : ¬ (0 : Int) ≤ ((0 : Nat) : Int) - 1 := by omega
    have b1 := valD_lt_of wlo (n := 8) (by omega)
    have b2 := valD_lt_of whi (n := 8) (by omega)
    rw [show 256 ^ 8 = 18446744073709551616 from rfl] at b1 b2
    have hval : valD (lo ++ hi) = valD lo + 18446744073709551616 * valD hi := by
      have : ∀ a b : List Nat, valD (a ++ b) = valD a + 256 ^ a.length * valD b := by
        intro a b
        induction a with
        | nil => simp [valD]
        | cons x a ih => simp only [List.cons_append, valD, ih, List.length_cons, Nat.pow_succ, Nat.mul_add, Nat.add_assoc]; congr 2; rw [← Nat.mul_assoc, Nat.mul_comm 256]
      rw [this, hlo]
    rw [hval]
    generalize valD lo = L at *
    generalize valD hi = M at *
    have q1 := mask26 L b1
    have q2 : shrOp .u64 (L : Int) 26 = ((L / 2 ^ 26 : Nat) : Int) := shr_u64 L 26 (by decide)
    have q3 := mask26 (L / 2 ^ 26) (by omega)
    have q4 : shrOp .u64 (L : Int) 52 = ((L / 2 ^ 52 : Nat) : Int) := shr_u64 L 52 (by decide)
    have q5 : shlOp .u64 (M : Int) 12 = ((M * 2 ^ 12 % 18446744073709551616 : Nat) : Int) := shl_u64 M 12 (by decide)
    have q6 := or_u64 (L / 2 ^ 52) (M * 2 ^ 12 % 18446744073709551616) (by omega) (by omega)
    rw [Nat.or_comm, or_add (k := 12) (by omega) (by omega)] at q6
    have q7 := mask26 (M * 2 ^ 12 % 18446744073709551616 + L / 2 ^ 52) (by omega)
    have q8 : shrOp .u64 (M : Int) 14 = ((M / 2 ^ 14 : Nat) : Int) := shr_u64 M 14 (by decide)
    have q9 := mask26 (M / 2 ^ 14) (by omega)
    have q10 : shrOp .u64 (M : Int) 40 = ((M / 2 ^ 40 : Nat) : Int) := shr_u64 M 40 (by decide)
    have q11 : shlOp .u64 (top : Int) 24 = ((top * 2 ^ 24 % 18446744073709551616 : Nat) : Int) := shl_u64 top 24 (by decide)
    have q12 := or_u64 (M / 2 ^ 40) (top * 2 ^ 24 % 18446744073709551616) (by omega) (by omega)
    rw [Nat.or_comm, or_add (k := 24) (by omega) (by omega)] at q12
    simp (config := {maxSteps := 2000000, implicitDefEqProofs := false}) only [go_sem, ↓reduceIte, Nat.reduceEqDiff, Nat.reduceAdd, Nat.reduceMul, Nat.reduceLeDiff, Nat.reduceLT, Nat.reduceSub, IntWalk.iteOmega, IntWalk.toNatUp, reduceCtorEq, Int.reduceLE, Int.reduceLT, Int.reduceToNat, Int.reduceNeg, f0, f1, f4, f5, f6, f7, k0, q1, q2, q3, q4, q5, q6, q7, q8, q9, q10, q11, q12]
    have w1 : L % 67108864 = (L + 18446744073709551616 * M) % 67108864 := by omega
    have w2 : L / 2 ^ 26 % 67108864 = (L + 18446744073709551616 * M) / 67108864 % 67108864 := by omega
    have w3 : (M * 2 ^ 12 % 18446744073709551616 + L / 2 ^ 52) % 67108864 = (L + 18446744073709551616 * M) / 4503599627370496 % 67108864 := by omega
    have w4 : M / 2 ^ 14 % 67108864 = (L + 18446744073709551616 * M) / 302231454903657293676544 % 67108864 := by omega
    have w5 : top * 2 ^ 24 % 18446744073709551616 + M / 2 ^ 40 = (L + 18446744073709551616 * M) / 20282409603651670423947251286016 + top * 16777216 := by omega
    rw [w1, w2, w3, w4, w5]
    rfl
end Go.Proofs.YtnpacofabdgcdaaDoor
namespace Go.Proofs.YtnpacofabdgcdaaDoor
open Go Go.V
set_option linter.unusedSimpArgs false
set_option linter.unusedVariables false
set_option maxRecDepth 100000
def carry1 (l : List Nat) (i : Nat) : List Nat :=
  if i < 4 then (l.set i (l.getD i 0 % 67108864)).set (i + 1) ((l.set i (l.getD i 0 % 67108864)).getD (i + 1) 0 + l.getD i 0 / 67108864)
  else (l.set i (l.getD i 0 % 67108864)).set 0 ((l.set i (l.getD i 0 % 67108864)).getD 0 0 + 5 * (l.getD i 0 / 67108864))
def carryN (l : List Nat) : Nat → List Nat
  | 0 => l
  | i + 1 => carry1 (carryN l i) i
def LtAll (K : Nat) (l : List Nat) : Prop := ∀ x ∈ l, x < K
theorem LtAll.getD {K : Nat} {l : List Nat} (w : LtAll K l) (hK : 0 < K) (i : Nat) : l.getD i 0 < K := by
  by_cases hi : i < l.length
  · have e : l.getD i 0 = l[i] := by rw [List.getD_eq_getElem?_getD, List.getElem?_eq_getElem hi]; rfl
    rw [e]; exact w _ (List.getElem_mem hi)
  · rw [getD_none hi]; exact hK
theorem LtAll.set {K : Nat} {l : List Nat} (w : LtAll K l) (i x : Nat) (hx : x < K) : LtAll K (l.set i x) := by
  intro y hy
  rcases List.mem_or_eq_of_mem_set hy with h | h
  · exact w y h
  · rw [h]; exact hx
theorem LtAll.mono {K K' : Nat} {l : List Nat} (w : LtAll K l) (h : K ≤ K') : LtAll K' l := fun x hx => Nat.lt_of_lt_of_le (w x hx) h
theorem carry1_length (l : List Nat) (i : Nat) : (carry1 l i).length = l.length := by
  unfold carry1; split <;> simp
theorem carryN_length (l : List Nat) : ∀ i, (carryN l i).length = l.length
  | 0 => rfl
  | i + 1 => by rw [carryN, carry1_length, carryN_length l i]
theorem carry1_lt {K : Nat} {l : List Nat} {i : Nat} (w : LtAll K l) (h0 : 67108864 ≤ K) (hK : K ≤ 2 ^ 62) : LtAll (K + 2 ^ 39) (carry1 l i) := by
  have hx := w.getD (by omega) i
  have w1 : LtAll K (l.set i (l.getD i 0 % 67108864)) := w.set i _ (by omega)
  have hy := w1.getD (by omega) (i + 1)
  have hz := w1.getD (by omega) 0
  unfold carry1
  split
  · exact (w1.mono (by omega)).set _ _ (by omega)
  · exact (w1.mono (by omega)).set _ _ (by omega)
theorem carryN_lt {K : Nat} {l : List Nat} (w : LtAll K l) (h0 : 67108864 ≤ K) (hK : K ≤ 2 ^ 61) : ∀ i, i ≤ 5 → LtAll (K + i * 2 ^ 39) (carryN l i)
  | 0, _ => by rw [Nat.zero_mul, Nat.add_zero]; exact w
  | i + 1, hi => by
    have := carry1_lt (i := i) (carryN_lt w h0 hK i (by omega)) (by omega) (by omega)
    rw [carryN]
    exact this.mono (by omega)
theorem getD_set_ne' {l : List Nat} {i j x : Nat} (h : i ≠ j) : (l.set i x).getD j 0 = l.getD j 0 := by
  rw [List.getD_eq_getElem?_getD, List.getD_eq_getElem?_getD, List.getElem?_set_ne h]
def limC (l : List Nat) : Obj := .cells (l.map uv ++ []).toArray 262
theorem shr26 (x : Nat) : shrOp .u64 (x : Int) 26 = ((x / 67108864 : Nat) : Int) := shr_u64 x 26 (by decide)
set_option maxHeartbeats 1000000 in
theorem carry_loop (T : World) (h : Hp) (bk : Nat) (l : List Nat) (hl : l.length = 5) (w : LtAll (2 ^ 61) l) (hb : h[bk]? = some (limC l)) :
    CallsH Tryd.prog T 257 #[.pointer (some ⟨bk, 0, none⟩)] h fun v' h' => ∃ a, a = carryN l 5 ∧ h' = h.setIfInBounds bk (limC ((a.set 1 (a.getD 1 0 + a.getD 0 0 / 67108864)).set 0 (a.getD 0 0 % 67108864))) := by
  refine CallsH.of_code' (args := [_]) Tryd.func257 rfl rfl rfl rfl ?_
  simp (config := {maxSteps := 2000000, implicitDefEqProofs := false}) only [go_sem, ↓reduceIte, Nat.reduceEqDiff, Nat.reduceAdd, Nat.reduceMul, Nat.reduceLeDiff, Nat.reduceLT, Nat.reduceSub, IntWalk.iteOmega, IntWalk.toNatUp, reduceCtorEq, Int.reduceLE, Int.reduceLT, Int.reduceToNat, Int.reduceNeg]
  refine VS.loop' (fun F g => F 0 = .pointer (some ⟨bk, 0, none⟩) ∧ ∃ i : Nat, i ≤ 5 ∧ F 4 = .int .i64 i ∧ g = h.setIfInBounds bk (limC (carryN l i)))
    (fun F _ => 5 - (vi (F 4)).toNat) rfl ⟨rfl, 0, by omega, rfl, (set_same hb).symm⟩ ?_
  rintro F g ⟨f0, i, hi, f4, rfl⟩
  have hx := cells_new (o := limC (carryN l i)) hb
  have hw := carryN_lt w (by decide) (by decide) i hi
  have hw2 := hw.getD (by omega) i
  have hln : (carryN l i).length = 5 := by rw [carryN_length, hl]
  by_cases hlt : i < 5
  · have hlt' : (i : Int) < 5 := by omega
    have hnext : carryN l (i + 1) = carry1 (carryN l i) i := rfl
    obtain ⟨a, ha⟩ : ∃ a, a = carryN l i := ⟨_, rfl⟩
    rw [← ha] at hx hw hw2 hln hnext ⊢
    obtain ⟨G, hG⟩ : ∃ G, G = h.setIfInBounds bk (limC a) := ⟨_, rfl⟩
    rw [← hG] at hx ⊢
    have g1 := cells_get hx (i := i) (by omega)
    unfold uv at g1
    obtain ⟨x, hxx⟩ : ∃ x, x = a.getD i 0 := ⟨_, rfl⟩
    rw [← hxx] at g1 hw2
    have e1 := shr26 x
    have e2 := mask26 x (by omega)
    simp (config := {maxSteps := 2000000, implicitDefEqProofs := false}) only [go_sem, ↓reduceIte, Nat.reduceEqDiff, Nat.reduceAdd, Nat.reduceMul, Nat.reduceLeDiff, Nat.reduceLT, Nat.reduceSub, IntWalk.iteOmega, IntWalk.toNatUp, reduceCtorEq, Int.reduceLE, Int.reduceLT, Int.reduceToNat, Int.reduceNeg, f0, f4, hlt', Int.toNat_natCast, Nat.zero_add, g1, e1]
    refine VS.w (bk + 1) [8] (.q 0 (.q 1 (.q 2 (.q 3 (.q 4 (.q 5 (.q 6 (.q 7 (.w 8 .nil))))))))) mixed (by kernel_rfl) ?_
    have c1 : wr1 _ ⟨bk, i, none⟩ (.int .u64 (x % 67108864 : Nat)) = _ := cells_set (f := uv) hx (i := i) (by omega) (x % 67108864) rfl
    have hx1 := cells_new (o := .cells ((a.set i (x % 67108864)).map uv ++ []).toArray 262) hx
    have hw1 := hw.set i (x % 67108864) (by omega)
    have hc1 : carry1 a i = if i < 4 then (a.set i (x % 67108864)).set (i + 1) ((a.set i (x % 67108864)).getD (i + 1) 0 + x / 67108864) else (a.set i (x % 67108864)).set 0 ((a.set i (x % 67108864)).getD 0 0 + 5 * (x / 67108864)) := by rw [hxx]; rfl
    have hl1 : (a.set i (x % 67108864)).length = 5 := by rw [List.length_set, hln]
    obtain ⟨a1, ha1⟩ : ∃ a1, a1 = a.set i (x % 67108864) := ⟨_, rfl⟩
    rw [← ha1] at hx1 hw1 hc1 hl1 c1
    obtain ⟨G1, hG1⟩ : ∃ G1, G1 = G.setIfInBounds bk (.cells (a1.map uv ++ []).toArray 262) := ⟨_, rfl⟩
    rw [← hG1] at hx1 c1
    by_cases h4 : i < 4
    · have h4' : (i : Int) < 4 := by omega
      rw [if_pos h4] at hc1
      simp (config := {maxSteps := 2000000, implicitDefEqProofs := false}) only [go_sem, ↓reduceIte, Nat.reduceEqDiff, Nat.reduceAdd, Nat.reduceMul, Nat.reduceLeDiff, Nat.reduceLT, Nat.reduceSub, IntWalk.iteOmega, IntWalk.toNatUp, reduceCtorEq, Int.reduceLE, Int.reduceLT, Int.reduceToNat, Int.reduceNeg, f0, f4, hlt', Int.toNat_natCast, Nat.zero_add, g1, e1, e2, c1, h4']
      refine VS.w (bk + 1) [10] (.q 0 (.q 1 (.q 2 (.q 3 (.q 4 (.q 5 (.q 6 (.q 7 (.q 8 (.q 9 (.w 10 .nil))))))))))) mixed (by kernel_rfl) ?_
      have g2 := cells_get hx1 (i := i + 1) (by omega)
      unfold uv at g2
      have hy := hw1.getD (by omega) (i + 1)
      obtain ⟨y, hyy⟩ : ∃ y, y = a1.getD (i + 1) 0 := ⟨_, rfl⟩
      rw [← hyy] at g2 hy hc1
      have e3 : (y : Int) + ((x / 67108864 : Nat) : Int) = ((y + x / 67108864 : Nat) : Int) := by omega
      have e4 : ((y + x / 67108864 : Nat) : Int) % 18446744073709551616 = ((y + x / 67108864 : Nat) : Int) := by omega
      have ei : (i : Int) + 1 = ((i + 1 : Nat) : Int) := rfl
      have hi1 : ((i + 1 : Nat) : Int) < 5 := by omega
      have c2 : wr1 G1 ⟨bk, i + 1, none⟩ (.int .u64 (y + x / 67108864 : Nat)) = _ := cells_set (f := uv) hx1 (i := i + 1) (by omega) (y + x / 67108864) rfl
      simp (config := {maxSteps := 2000000, implicitDefEqProofs := false}) only [go_sem, ↓reduceIte, Nat.reduceEqDiff, Nat.reduceAdd, Nat.reduceMul, Nat.reduceLeDiff, Nat.reduceLT, Nat.reduceSub, IntWalk.iteOmega, IntWalk.toNatUp, reduceCtorEq, Int.reduceLE, Int.reduceLT, Int.reduceToNat, Int.reduceNeg, f0, f4, hlt', ei, hi1, Int.toNat_natCast, Nat.zero_add, g2, e3, e4, c2]
      refine ⟨⟨f0, i + 1, hlt, rfl, ?_⟩, ?_⟩
      · rw [hG1, set_set, hG, set_set, hnext, hc1]; rfl
      · simp only [vi, updo_some, ↓reduceIte, f4]; omega
    · have h4' : ¬ (i : Int) < 4 := by omega
      rw [if_neg h4] at hc1
      simp (config := {maxSteps := 2000000, implicitDefEqProofs := false}) only [go_sem, ↓reduceIte, Nat.reduceEqDiff, Nat.reduceAdd, Nat.reduceMul, Nat.reduceLeDiff, Nat.reduceLT, Nat.reduceSub, IntWalk.iteOmega, IntWalk.toNatUp, reduceCtorEq, Int.reduceLE, Int.reduceLT, Int.reduceToNat, Int.reduceNeg, f0, f4, hlt', Int.toNat_natCast, Nat.zero_add, g1, e1, e2, c1, h4']
      refine VS.w (bk + 1) [9] (.q 0 (.q 1 (.q 2 (.q 3 (.q 4 (.q 5 (.q 6 (.q 7 (.q 8 (.w 9 .nil)))))))))) mixed (by kernel_rfl) ?_
      have g2 := cells_get hx1 (i := 0) (by omega)
      unfold uv at g2
      have hy := hw1.getD (by omega) 0
      obtain ⟨y, hyy⟩ : ∃ y, y = a1.getD 0 0 := ⟨_, rfl⟩
      rw [← hyy] at g2 hy hc1
      have e5 : (5 : Int) * ((x / 67108864 : Nat) : Int) = ((5 * (x / 67108864) : Nat) : Int) := by omega
      have e6 : ((5 * (x / 67108864) : Nat) : Int) % 18446744073709551616 = ((5 * (x / 67108864) : Nat) : Int) := by omega
      have e3 : (y : Int) + ((5 * (x / 67108864) : Nat) : Int) = ((y + 5 * (x / 67108864) : Nat) : Int) := by omega
      have e4 : ((y + 5 * (x / 67108864) : Nat) : Int) % 18446744073709551616 = ((y + 5 * (x / 67108864) : Nat) : Int) := by omega
      have c2 : wr1 G1 ⟨bk, 0, none⟩ (.int .u64 (y + 5 * (x / 67108864) : Nat)) = _ := cells_set (f := uv) hx1 (i := 0) (by omega) (y + 5 * (x / 67108864)) rfl
      simp (config := {maxSteps := 2000000, implicitDefEqProofs := false}) only [go_sem, ↓reduceIte, Nat.reduceEqDiff, Nat.reduceAdd, Nat.reduceMul, Nat.reduceLeDiff, Nat.reduceLT, Nat.reduceSub, IntWalk.iteOmega, IntWalk.toNatUp, reduceCtorEq, Int.reduceLE, Int.reduceLT, Int.reduceToNat, Int.reduceNeg, f0, f4, hlt', Int.toNat_natCast, Nat.zero_add, g2, e3, e4, e5, e6, c2]
      refine ⟨⟨f0, i + 1, hlt, rfl, ?_⟩, ?_⟩
      · rw [hG1, set_set, hG, set_set, hnext, hc1]; rfl
      · simp only [vi, updo_some, ↓reduceIte, f4]; omega
  · have hge : ¬ (i : Int) < 5 := by omega
    obtain rfl : i = 5 := by omega
    obtain ⟨a, ha⟩ : ∃ a, a = carryN l 5 := ⟨_, rfl⟩
    rw [← ha] at hx hw hw2 hln ⊢
    obtain ⟨G, hG⟩ : ∃ G, G = h.setIfInBounds bk (limC a) := ⟨_, rfl⟩
    rw [← hG] at hx ⊢
    have g0 := cells_get hx (i := 0) (by omega)
    have g1 := cells_get hx (i := 1) (by omega)
    have y0 := hw.getD (by omega) 0
    have y1 := hw.getD (by omega) 1
    unfold uv at g0 g1
    obtain ⟨x, hxx⟩ : ∃ x, x = a.getD 0 0 := ⟨_, rfl⟩
    obtain ⟨y, hyy⟩ : ∃ y, y = a.getD 1 0 := ⟨_, rfl⟩
    rw [← hxx] at g0 y0
    rw [← hyy] at g1 y1
    have e1 := shr26 x
    have e2 := mask26 x (by omega)
    have e3 : (y : Int) + ((x / 67108864 : Nat) : Int) = ((y + x / 67108864 : Nat) : Int) := by omega
    have e4 : ((y + x / 67108864 : Nat) : Int) % 18446744073709551616 = ((y + x / 67108864 : Nat) : Int) := by omega
    have c5 : ((5 : Nat) : Int) = 5 := rfl
    rw [c5] at f4 hge
    simp (config := {maxSteps := 2000000, implicitDefEqProofs := false}) only [go_sem, ↓reduceIte, Nat.reduceEqDiff, Nat.reduceAdd, Nat.reduceMul, Nat.reduceLeDiff, Nat.reduceLT, Nat.reduceSub, IntWalk.iteOmega, IntWalk.toNatUp, reduceCtorEq, Int.reduceLE, Int.reduceLT, Int.reduceToNat, Int.reduceNeg, f0, f4, hge]
    refine VS.w (bk + 1) [12] (.q 0 (.q 1 (.q 2 (.q 3 (.q 4 (.q 5 (.q 6 (.q 7 (.q 8 (.q 9 (.q 10 (.q 11 (.w 12 .nil))))))))))))) mixed (by kernel_rfl) ?_
    have c1 : wr1 G ⟨bk, 1, none⟩ (.int .u64 (y + x / 67108864 : Nat)) = _ := cells_set (f := uv) hx (i := 1) (by omega) (y + x / 67108864) rfl
    have hx1 := cells_new (o := .cells ((a.set 1 (y + x / 67108864)).map uv ++ []).toArray 262) hx
    have hl1 : (a.set 1 (y + x / 67108864)).length = 5 := by rw [List.length_set, hln]
    obtain ⟨a1, ha1⟩ : ∃ a1, a1 = a.set 1 (y + x / 67108864) := ⟨_, rfl⟩
    rw [← ha1] at hx1 hl1 c1
    obtain ⟨G1, hG1⟩ : ∃ G1, G1 = G.setIfInBounds bk (.cells (a1.map uv ++ []).toArray 262) := ⟨_, rfl⟩
    rw [← hG1] at hx1 c1
    have g2 := cells_get hx1 (i := 0) (by omega)
    unfold uv at g2
    have g2e : a1.getD 0 0 = x := by rw [ha1, getD_set_ne' (by decide), ← hxx]
    rw [g2e] at g2
    simp (config := {maxSteps := 2000000, implicitDefEqProofs := false}) only [go_sem, ↓reduceIte, Nat.reduceEqDiff, Nat.reduceAdd, Nat.reduceMul, Nat.reduceLeDiff, Nat.reduceLT, Nat.reduceSub, IntWalk.iteOmega, IntWalk.toNatUp, reduceCtorEq, Int.reduceLE, Int.reduceLT, Int.reduceToNat, Int.reduceNeg, f0, Nat.zero_add, g0, g1, e1, e3, e4, c1]
    refine VS.w (bk + 1) [7] (.q 0 (.q 1 (.q 2 (.q 3 (.q 4 (.q 5 (.q 6 (.w 7 .nil)))))))) mixed (by kernel_rfl) ?_
    have c2 : wr1 G1 ⟨bk, 0, none⟩ (.int .u64 (x % 67108864 : Nat)) = _ := cells_set (f := uv) hx1 (i := 0) (by omega) (x % 67108864) rfl
    simp (config := {maxSteps := 2000000, implicitDefEqProofs := false}) only [go_sem, ↓reduceIte, Nat.reduceEqDiff, Nat.reduceAdd, Nat.reduceMul, Nat.reduceLeDiff, Nat.reduceLT, Nat.reduceSub, IntWalk.iteOmega, IntWalk.toNatUp, reduceCtorEq, Int.reduceLE, Int.reduceLT, Int.reduceToNat, Int.reduceNeg, f0, Nat.zero_add, g2, e2, c2]
    rw [hG1, set_set, hG, set_set, ha1]
    exact ⟨a, rfl, by rw [← hxx, ← hyy]; rfl⟩
end Go.Proofs.YtnpacofabdgcdaaDoor
