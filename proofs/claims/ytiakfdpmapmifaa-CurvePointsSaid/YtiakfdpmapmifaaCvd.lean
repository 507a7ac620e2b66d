/- Numbers as lists of digits of base 65536: what they are, and the reference's sum; no condition but those in the statements. -/
import Derived.Test.YtiakfdpmapmifaaFlad
import Derived.Test.YtiakfdpmapmifaaW21
namespace Go.Proofs.Ytiakfdpmapmifaa
open Go Go.V
set_option linter.unusedSimpArgs false
set_option linter.unusedVariables false
set_option maxRecDepth 100000

/-- What digits of base 65536 are, the lowest one first. -/
def valE : List Nat → Nat
  | [] => 0
  | x :: l => x + 65536 * valE l
def Eg (l : List Nat) : Prop := ∀ x ∈ l, x < 65536
theorem Eg.nil : Eg [] := by intro x hx; cases hx
theorem Eg.getD {l : List Nat} (w : Eg l) (i : Nat) : l.getD i 0 < 65536 := by
  rw [List.getD_eq_getElem?_getD]
  cases hx : l[i]? with
  | none => exact (by decide)
  | some x => exact w x (List.mem_of_getElem? hx)
theorem Eg.snoc {l : List Nat} {x : Nat} (w : Eg l) (hx : x < 65536) : Eg (l ++ [x]) := by
  intro y hy
  rcases List.mem_append.1 hy with h | h
  · exact w y h
  · rw [List.mem_singleton.1 h]; exact hx
theorem Eg.set {l : List Nat} {x : Nat} (w : Eg l) (i : Nat) (hx : x < 65536) : Eg (l.set i x) := by
  intro y hy
  rcases List.mem_or_eq_of_mem_set hy with h | h
  · exact w y h
  · rw [h]; exact hx
theorem Eg.one {x : Nat} (hx : x < 65536) : Eg [x] := by
  intro y hy; rw [List.mem_singleton.1 hy]; exact hx
theorem valE_snoc (l : List Nat) (x : Nat) : valE (l ++ [x]) = valE l + x * 65536 ^ l.length := by
  induction l with
  | nil => simp [valE]
  | cons y l ih =>
    simp only [List.cons_append, valE, ih, List.length_cons, Nat.pow_succ]
    rw [Nat.mul_add, ← Nat.add_assoc]
    congr 1
    rw [Nat.mul_comm x, Nat.mul_comm x, ← Nat.mul_assoc, Nat.mul_comm (65536 ^ l.length) 65536]
theorem valE_take (l : List Nat) (i : Nat) : valE (l.take (i + 1)) = valE (l.take i) + l.getD i 0 * 65536 ^ i := by
  by_cases hi : i < l.length
  · rw [take_snoc l i hi, valE_snoc, List.length_take, Nat.min_eq_left (Nat.le_of_lt hi), List.getD_eq_getElem?_getD, List.getElem?_eq_getElem hi]; rfl
  · rw [List.take_of_length_le (by omega), List.take_of_length_le (by omega), List.getD_eq_getElem?_getD, List.getElem?_eq_none (by omega)]; simp
theorem valE_lt {l : List Nat} (w : Eg l) : valE l < 65536 ^ l.length := by
  induction l with
  | nil => simp [valE]
  | cons x l ih =>
    have h1 := ih fun y hy => w y (List.mem_cons_of_mem _ hy)
    have h2 := w x List.mem_cons_self
    simp only [valE, List.length_cons, Nat.pow_succ]
    omega
theorem valE_set (l : List Nat) (i x : Nat) (hi : i < l.length) : valE (l.set i x) + l.getD i 0 * 65536 ^ i = valE l + x * 65536 ^ i := by
  induction l generalizing i with
  | nil => simp at hi
  | cons y l ih =>
    cases i with
    | zero => simp only [List.set_cons_zero, valE, List.getD_cons_zero, Nat.pow_zero, Nat.mul_one]; omega
    | succ i =>
      have := ih i (by simpa using hi)
      simp only [List.set_cons_succ, valE, List.getD_cons_succ, Nat.pow_succ]
      have e1 : l.getD i 0 * (65536 ^ i * 65536) = 65536 * (l.getD i 0 * 65536 ^ i) := by rw [← Nat.mul_assoc, Nat.mul_comm]
      have e2 : x * (65536 ^ i * 65536) = 65536 * (x * 65536 ^ i) := by rw [← Nat.mul_assoc, Nat.mul_comm]
      rw [e1, e2]; omega
theorem valE_zero (n : Nat) : valE (List.replicate n 0) = 0 := by
  induction n with
  | zero => rfl
  | succ n ih => rw [List.replicate_succ, valE, ih]
/-- A digit of a number. -/
theorem valE_digit {l : List Nat} (w : Eg l) (i : Nat) : l.getD i 0 = valE l / 65536 ^ i % 65536 := by
  induction l generalizing i with
  | nil => simp [valE]
  | cons x l ih =>
    have hx := w x List.mem_cons_self
    cases i with
    | zero => simp only [List.getD_cons_zero, valE, Nat.pow_zero, Nat.div_one]; omega
    | succ i =>
      rw [List.getD_cons_succ, ih (fun y hy => w y (List.mem_cons_of_mem _ hy)) i, valE, Nat.pow_succ, Nat.mul_comm (65536 ^ i) 65536, ← Nat.div_div_eq_div_mul]
      congr 2
      omega
abbrev IT (h : Hp) (v : Value) (l : List Nat) : Prop := Ts (fun x => [nv x]) 1 h v l
abbrev IO (B : Nat) (h : Hp) (v : Value) (l : List Nat) : Prop := Ots B 3 (fun x => [nv x]) 1 h v l
theorem added_step {a b o : List Nat} {i c : Nat} (ho : o.length = i) (hv : valE o + c * 65536 ^ i = valE (a.take i) + valE (b.take i)) :
    valE (o ++ [(c + a.getD i 0 + b.getD i 0) % 65536]) + (c + a.getD i 0 + b.getD i 0) / 65536 * 65536 ^ (i + 1) = valE (a.take (i + 1)) + valE (b.take (i + 1)) := by
  rw [valE_snoc, ho, valE_take, valE_take]
  generalize ht : c + a.getD i 0 + b.getD i 0 = t
  have e : t % 65536 * 65536 ^ i + t / 65536 * 65536 ^ (i + 1) = t * 65536 ^ i := by
    rw [Nat.pow_succ, Nat.mul_comm (65536 ^ i) 65536, ← Nat.mul_assoc, ← Nat.add_mul]
    congr 1; omega
  have e2 : t * 65536 ^ i = c * 65536 ^ i + a.getD i 0 * 65536 ^ i + b.getD i 0 * 65536 ^ i := by rw [← ht, Nat.add_mul, Nat.add_mul]
  omega
theorem getD_none {l : List Nat} {i : Nat} (hi : ¬ i < l.length) : l.getD i 0 = 0 := by
  rw [List.getD_eq_getElem?_getD, List.getElem?_eq_none (by omega)]; rfl


set_option maxHeartbeats 1000000 in
theorem curvePlus_ok (T : World) (h : Hp) (va vb : Value) (a b : List Nat) (sa : IT h va a) (sb : IT h vb b) (wa : Eg a) (wb : Eg b) :
    CallsH Try.prog T 61 #[va, vb] h fun v' h' => (∃ (o : List Nat) (c : Nat), IO h.size h' v' o ∧ Eg o ∧ o.length = 17 ∧ valE o + c * 65536 ^ 17 = valE (a.take 17) + valE (b.take 17)) ∧ Bel h.size h h' := by
  obtain ⟨p, cp, rfl, hca⟩ := nv_open sa
  obtain ⟨q, cq, rfl, hcb⟩ := nv_open sb
  refine CallsH.of_code' (args := [_, _]) Try.func61 rfl rfl rfl rfl ?_
  simp (config := {maxSteps := 2000000, implicitDefEqProofs := false}) only [go_sem, ↓reduceIte, Nat.reduceEqDiff, Nat.reduceAdd, Nat.reduceMul, Nat.reduceLeDiff, Nat.reduceLT, Nat.reduceSub, IntWalk.iteOmega, IntWalk.toNatUp, reduceCtorEq, false_and, and_false, false_or, or_false, true_or, or_true, not_true_eq_false, not_false_eq_true, Bool.not_true, Bool.not_false, Bool.and_true, Bool.true_and, Bool.and_false, Bool.false_and, Bool.not_eq_true, beq_self_eq_true, Nat.add_zero, Int.reduceLE, Int.reduceLT, Int.reduceToNat, Int.reduceNeg]
  refine VS.loop' (fun F g => Bel h.size h g ∧ F 0 = .slice p a.length cp ∧ F 1 = .slice q b.length cq ∧ ∃ (i c : Nat) (o : List Nat), o.length = i ∧ c ≤ 1 ∧ i ≤ 17 ∧ F 7 = .int .i64 i ∧ F 6 = .int .i64 c ∧ IO h.size g (F 5) o ∧ Eg o ∧ valE o + c * 65536 ^ i = valE (a.take i) + valE (b.take i))
    (fun F _ => 17 - (vi (F 7)).toNat) rfl ⟨Bel.refl _ _, rfl, rfl, 0, 0, [], rfl, by omega, by omega, rfl, rfl, Ots.nil _ _ _ _ _, Eg.nil, by simp [valE]⟩ ?_
  rintro F g ⟨hg, f0, f1, i, c, o, hoi, hc, hi, f7, f6, ho, wo, hv⟩
  have hia := wa.getD i
  have hib := wb.getD i
  by_cases hlt : i < 17
  · have hlt' : (i : Int) < 17 := by omega
    have hs := added_step hoi hv
    by_cases ha : i < a.length
    · by_cases hb : i < b.length
      · have ha' : (i : Int) < a.length := by omega
        obtain ⟨ba, oa, rfl, hba, hca⟩ := hca (by intro e; subst e; simp at ha)
        have ga : V.hc g ⟨ba, oa + i, none⟩ = some (.int .i64 (a.getD i 0 : Nat)) := by rw [hg.hc (by exact hba)]; exact hca i ha
        have hb' : (i : Int) < b.length := by omega
        obtain ⟨bb, ob, rfl, hbb, hcb⟩ := hcb (by intro e; subst e; simp at hb)
        have gb : V.hc g ⟨bb, ob + i, none⟩ = some (.int .i64 (b.getD i 0 : Nat)) := by rw [hg.hc (by exact hbb)]; exact hcb i hb
        obtain ⟨x, hxx⟩ : ∃ x, x = a.getD i 0 := ⟨_, rfl⟩
        obtain ⟨y, hyy⟩ : ∃ y, y = b.getD i 0 := ⟨_, rfl⟩
        rw [← hxx] at hs hia ga
        rw [← hyy] at hs hib gb
        obtain ⟨t, ht⟩ : ∃ t, t = c + x + y := ⟨_, rfl⟩
        have hse : c + x + y = t := by omega
        rw [hse] at hs
        have e1 : ((c : Nat) : Int) + (x : Int) = ((c + x : Nat) : Int) := by omega
        have e2 : ((c + x : Nat) : Int) + (y : Int) = (t : Int) := by omega
        have em : ((t : Nat) : Int).tmod 65536 = ((t % 65536 : Nat) : Int) := rfl
        have ed : ((t : Nat) : Int).tdiv 65536 = ((t / 65536 : Nat) : Int) := rfl
        have ht2 : t ≤ 131071 := by omega
        simp (config := {maxSteps := 2000000, implicitDefEqProofs := false}) only [go_sem, ↓reduceIte, Nat.reduceEqDiff, Nat.reduceAdd, Nat.reduceMul, Nat.reduceLeDiff, Nat.reduceLT, Nat.reduceSub, IntWalk.iteOmega, IntWalk.toNatUp, reduceCtorEq, false_and, and_false, false_or, or_false, true_or, or_true, not_true_eq_false, not_false_eq_true, Bool.not_true, Bool.not_false, Bool.and_true, Bool.true_and, Bool.and_false, Bool.false_and, Bool.not_eq_true, beq_self_eq_true, Nat.add_zero, Int.reduceLE, Int.reduceLT, Int.reduceToNat, Int.reduceNeg, f0, f1, f6, f7, hlt', ha', hb', ga, gb, e1, e2, em, ed]
        refine append_ts (E := 3) (B := h.size) (n := 1) (bytes := 8) tsl72 Try.underlying72 tn3 tz3 rfl tb3 (fun _ => rfl) (ho.push _) (by have := hg.size; simp; omega) (Ts.one (enc := fun x => [nv x]) (t % 65536) (fun _ => rfl) 1) ?_ (by omega) ?_
        · simp only [List.length_singleton]; omega
        intro v' h' ho' hb2 _
        simp (config := {maxSteps := 2000000, implicitDefEqProofs := false}) only [go_sem, ↓reduceIte, Nat.reduceEqDiff, Nat.reduceAdd, Nat.reduceMul, Nat.reduceLeDiff, Nat.reduceLT, Nat.reduceSub, IntWalk.iteOmega, IntWalk.toNatUp, reduceCtorEq, false_and, and_false, false_or, or_false, true_or, or_true, not_true_eq_false, not_false_eq_true, Bool.not_true, Bool.not_false, Bool.and_true, Bool.true_and, Bool.and_false, Bool.false_and, Bool.not_eq_true, beq_self_eq_true, Nat.add_zero, Int.reduceLE, Int.reduceLT, Int.reduceToNat, Int.reduceNeg, f0, f1, f6, f7, ed]
        refine ⟨⟨(hg.addP hg.size _).trans hb2, f0, f1, i + 1, t / 65536, o ++ [t % 65536], by rw [List.length_append, hoi]; rfl, by omega, by omega, rfl, rfl, ho', wo.snoc (by omega), hs⟩, ?_⟩
        simp only [vi, updo_some, ↓reduceIte, f7]; omega
      · have ha' : (i : Int) < a.length := by omega
        obtain ⟨ba, oa, rfl, hba, hca⟩ := hca (by intro e; subst e; simp at ha)
        have ga : V.hc g ⟨ba, oa + i, none⟩ = some (.int .i64 (a.getD i 0 : Nat)) := by rw [hg.hc (by exact hba)]; exact hca i ha
        have hb' : ¬ (i : Int) < b.length := by omega
        have gb0 := getD_none hb
        obtain ⟨x, hxx⟩ : ∃ x, x = a.getD i 0 := ⟨_, rfl⟩
        obtain ⟨y, hyy⟩ : ∃ y, y = b.getD i 0 := ⟨_, rfl⟩
        rw [← hxx] at hs hia ga
        rw [← hyy] at hs hib gb0
        subst gb0
        obtain ⟨t, ht⟩ : ∃ t, t = c + x := ⟨_, rfl⟩
        have hse : c + x + 0 = t := by omega
        rw [hse] at hs
        have e1 : ((c : Nat) : Int) + (x : Int) = (t : Int) := by omega
        have em : ((t : Nat) : Int).tmod 65536 = ((t % 65536 : Nat) : Int) := rfl
        have ed : ((t : Nat) : Int).tdiv 65536 = ((t / 65536 : Nat) : Int) := rfl
        have ht2 : t ≤ 131071 := by omega
        simp (config := {maxSteps := 2000000, implicitDefEqProofs := false}) only [go_sem, ↓reduceIte, Nat.reduceEqDiff, Nat.reduceAdd, Nat.reduceMul, Nat.reduceLeDiff, Nat.reduceLT, Nat.reduceSub, IntWalk.iteOmega, IntWalk.toNatUp, reduceCtorEq, false_and, and_false, false_or, or_false, true_or, or_true, not_true_eq_false, not_false_eq_true, Bool.not_true, Bool.not_false, Bool.and_true, Bool.true_and, Bool.and_false, Bool.false_and, Bool.not_eq_true, beq_self_eq_true, Nat.add_zero, Int.reduceLE, Int.reduceLT, Int.reduceToNat, Int.reduceNeg, f0, f1, f6, f7, hlt', ha', hb', ga, e1, em, ed]
        refine append_ts (E := 3) (B := h.size) (n := 1) (bytes := 8) tsl72 Try.underlying72 tn3 tz3 rfl tb3 (fun _ => rfl) (ho.push _) (by have := hg.size; simp; omega) (Ts.one (enc := fun x => [nv x]) (t % 65536) (fun _ => rfl) 1) ?_ (by omega) ?_
        · simp only [List.length_singleton]; omega
        intro v' h' ho' hb2 _
        simp (config := {maxSteps := 2000000, implicitDefEqProofs := false}) only [go_sem, ↓reduceIte, Nat.reduceEqDiff, Nat.reduceAdd, Nat.reduceMul, Nat.reduceLeDiff, Nat.reduceLT, Nat.reduceSub, IntWalk.iteOmega, IntWalk.toNatUp, reduceCtorEq, false_and, and_false, false_or, or_false, true_or, or_true, not_true_eq_false, not_false_eq_true, Bool.not_true, Bool.not_false, Bool.and_true, Bool.true_and, Bool.and_false, Bool.false_and, Bool.not_eq_true, beq_self_eq_true, Nat.add_zero, Int.reduceLE, Int.reduceLT, Int.reduceToNat, Int.reduceNeg, f0, f1, f6, f7, ed]
        refine ⟨⟨(hg.addP hg.size _).trans hb2, f0, f1, i + 1, t / 65536, o ++ [t % 65536], by rw [List.length_append, hoi]; rfl, by omega, by omega, rfl, rfl, ho', wo.snoc (by omega), hs⟩, ?_⟩
        simp only [vi, updo_some, ↓reduceIte, f7]; omega
    · by_cases hb : i < b.length
      · have ha' : ¬ (i : Int) < a.length := by omega
        have ga0 := getD_none ha
        have hb' : (i : Int) < b.length := by omega
        obtain ⟨bb, ob, rfl, hbb, hcb⟩ := hcb (by intro e; subst e; simp at hb)
        have gb : V.hc g ⟨bb, ob + i, none⟩ = some (.int .i64 (b.getD i 0 : Nat)) := by rw [hg.hc (by exact hbb)]; exact hcb i hb
        obtain ⟨x, hxx⟩ : ∃ x, x = a.getD i 0 := ⟨_, rfl⟩
        obtain ⟨y, hyy⟩ : ∃ y, y = b.getD i 0 := ⟨_, rfl⟩
        rw [← hxx] at hs hia ga0
        rw [← hyy] at hs hib gb
        subst ga0
        obtain ⟨t, ht⟩ : ∃ t, t = c + y := ⟨_, rfl⟩
        have hse : c + 0 + y = t := by omega
        rw [hse] at hs
        have e1 : ((c : Nat) : Int) + (y : Int) = (t : Int) := by omega
        have em : ((t : Nat) : Int).tmod 65536 = ((t % 65536 : Nat) : Int) := rfl
        have ed : ((t : Nat) : Int).tdiv 65536 = ((t / 65536 : Nat) : Int) := rfl
        have ht2 : t ≤ 131071 := by omega
        simp (config := {maxSteps := 2000000, implicitDefEqProofs := false}) only [go_sem, ↓reduceIte, Nat.reduceEqDiff, Nat.reduceAdd, Nat.reduceMul, Nat.reduceLeDiff, Nat.reduceLT, Nat.reduceSub, IntWalk.iteOmega, IntWalk.toNatUp, reduceCtorEq, false_and, and_false, false_or, or_false, true_or, or_true, not_true_eq_false, not_false_eq_true, Bool.not_true, Bool.not_false, Bool.and_true, Bool.true_and, Bool.and_false, Bool.false_and, Bool.not_eq_true, beq_self_eq_true, Nat.add_zero, Int.reduceLE, Int.reduceLT, Int.reduceToNat, Int.reduceNeg, f0, f1, f6, f7, hlt', ha', hb', gb, e1, em, ed]
        refine append_ts (E := 3) (B := h.size) (n := 1) (bytes := 8) tsl72 Try.underlying72 tn3 tz3 rfl tb3 (fun _ => rfl) (ho.push _) (by have := hg.size; simp; omega) (Ts.one (enc := fun x => [nv x]) (t % 65536) (fun _ => rfl) 1) ?_ (by omega) ?_
        · simp only [List.length_singleton]; omega
        intro v' h' ho' hb2 _
        simp (config := {maxSteps := 2000000, implicitDefEqProofs := false}) only [go_sem, ↓reduceIte, Nat.reduceEqDiff, Nat.reduceAdd, Nat.reduceMul, Nat.reduceLeDiff, Nat.reduceLT, Nat.reduceSub, IntWalk.iteOmega, IntWalk.toNatUp, reduceCtorEq, false_and, and_false, false_or, or_false, true_or, or_true, not_true_eq_false, not_false_eq_true, Bool.not_true, Bool.not_false, Bool.and_true, Bool.true_and, Bool.and_false, Bool.false_and, Bool.not_eq_true, beq_self_eq_true, Nat.add_zero, Int.reduceLE, Int.reduceLT, Int.reduceToNat, Int.reduceNeg, f0, f1, f6, f7, ed]
        refine ⟨⟨(hg.addP hg.size _).trans hb2, f0, f1, i + 1, t / 65536, o ++ [t % 65536], by rw [List.length_append, hoi]; rfl, by omega, by omega, rfl, rfl, ho', wo.snoc (by omega), hs⟩, ?_⟩
        simp only [vi, updo_some, ↓reduceIte, f7]; omega
      · have ha' : ¬ (i : Int) < a.length := by omega
        have ga0 := getD_none ha
        have hb' : ¬ (i : Int) < b.length := by omega
        have gb0 := getD_none hb
        obtain ⟨x, hxx⟩ : ∃ x, x = a.getD i 0 := ⟨_, rfl⟩
        obtain ⟨y, hyy⟩ : ∃ y, y = b.getD i 0 := ⟨_, rfl⟩
        rw [← hxx] at hs hia ga0
        rw [← hyy] at hs hib gb0
        subst ga0
        subst gb0
        obtain ⟨t, ht⟩ : ∃ t, t = c := ⟨_, rfl⟩
        have hse : c + 0 + 0 = t := by omega
        rw [hse] at hs
        have ht0 : c = t := by omega
        rw [ht0] at f6
        have em : ((t : Nat) : Int).tmod 65536 = ((t % 65536 : Nat) : Int) := rfl
        have ed : ((t : Nat) : Int).tdiv 65536 = ((t / 65536 : Nat) : Int) := rfl
        have ht2 : t ≤ 131071 := by omega
        simp (config := {maxSteps := 2000000, implicitDefEqProofs := false}) only [go_sem, ↓reduceIte, Nat.reduceEqDiff, Nat.reduceAdd, Nat.reduceMul, Nat.reduceLeDiff, Nat.reduceLT, Nat.reduceSub, IntWalk.iteOmega, IntWalk.toNatUp, reduceCtorEq, false_and, and_false, false_or, or_false, true_or, or_true, not_true_eq_false, not_false_eq_true, Bool.not_true, Bool.not_false, Bool.and_true, Bool.true_and, Bool.and_false, Bool.false_and, Bool.not_eq_true, beq_self_eq_true, Nat.add_zero, Int.reduceLE, Int.reduceLT, Int.reduceToNat, Int.reduceNeg, f0, f1, f6, f7, hlt', ha', hb', em, ed]
        refine append_ts (E := 3) (B := h.size) (n := 1) (bytes := 8) tsl72 Try.underlying72 tn3 tz3 rfl tb3 (fun _ => rfl) (ho.push _) (by have := hg.size; simp; omega) (Ts.one (enc := fun x => [nv x]) (t % 65536) (fun _ => rfl) 1) ?_ (by omega) ?_
        · simp only [List.length_singleton]; omega
        intro v' h' ho' hb2 _
        simp (config := {maxSteps := 2000000, implicitDefEqProofs := false}) only [go_sem, ↓reduceIte, Nat.reduceEqDiff, Nat.reduceAdd, Nat.reduceMul, Nat.reduceLeDiff, Nat.reduceLT, Nat.reduceSub, IntWalk.iteOmega, IntWalk.toNatUp, reduceCtorEq, false_and, and_false, false_or, or_false, true_or, or_true, not_true_eq_false, not_false_eq_true, Bool.not_true, Bool.not_false, Bool.and_true, Bool.true_and, Bool.and_false, Bool.false_and, Bool.not_eq_true, beq_self_eq_true, Nat.add_zero, Int.reduceLE, Int.reduceLT, Int.reduceToNat, Int.reduceNeg, f0, f1, f6, f7, ed]
        refine ⟨⟨(hg.addP hg.size _).trans hb2, f0, f1, i + 1, t / 65536, o ++ [t % 65536], by rw [List.length_append, hoi]; rfl, by omega, by omega, rfl, rfl, ho', wo.snoc (by omega), hs⟩, ?_⟩
        simp only [vi, updo_some, ↓reduceIte, f7]; omega
  · have hge : ¬ (i : Int) < 17 := by omega
    obtain rfl : i = 17 := by omega
    have c17 : ((17 : Nat) : Int) = 17 := rfl
    rw [c17] at f7
    simp (config := {maxSteps := 2000000, implicitDefEqProofs := false}) only [go_sem, ↓reduceIte, Nat.reduceEqDiff, Nat.reduceAdd, Nat.reduceMul, Nat.reduceLeDiff, Nat.reduceLT, Nat.reduceSub, IntWalk.iteOmega, IntWalk.toNatUp, reduceCtorEq, false_and, and_false, false_or, or_false, true_or, or_true, not_true_eq_false, not_false_eq_true, Bool.not_true, Bool.not_false, Bool.and_true, Bool.true_and, Bool.and_false, Bool.false_and, Bool.not_eq_true, beq_self_eq_true, Nat.add_zero, Int.reduceLE, Int.reduceLT, Int.reduceToNat, Int.reduceNeg, f7]
    exact ⟨⟨o, c, ho, wo, hoi, hv⟩, hg⟩
end Go.Proofs.Ytiakfdpmapmifaa
