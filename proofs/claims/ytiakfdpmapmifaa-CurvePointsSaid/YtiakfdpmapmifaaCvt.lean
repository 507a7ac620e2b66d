/- The reference's sum, difference and product modulo 2^255 - 19; no condition but those in the statements. -/
import Derived.Test.YtiakfdpmapmifaaCvp
namespace Go.Proofs.Ytiakfdpmapmifaa
open Go Go.V
set_option linter.unusedSimpArgs false
set_option linter.unusedVariables false
set_option maxRecDepth 100000
/-- Sixteen digits below 2^255 - 19 that stand for a whole number. -/
def Rf (o : List Nat) (z : Int) : Prop := Cn o ∧ Like ((valE o : Nat) : Int) z
theorem pn_p : ((PN : Nat) : Int) = P255 := rfl
theorem like_mod {v n : Nat} (h : v = n % PN) : Like ((v : Nat) : Int) ((n : Nat) : Int) := by
  unfold Like
  rw [h, Int.natCast_emod, pn_p, Int.emod_emod_of_dvd _ (Int.dvd_refl _)]
theorem Cn.lt {o : List Nat} (c : Cn o) : valE o < 65536 ^ 16 := by
  have := valE_lt c.2.1
  rwa [c.1] at this
set_option maxHeartbeats 1000000 in
theorem curveAdd_ok (T : World) (h : Hp) (va vb : Value) (a b : List Nat) (sa : IT h va a) (sb : IT h vb b) (wa : Eg a) (wb : Eg b) (la : a.length = 16) (lb : b.length = 16) :
    CallsH Try.prog T 48 #[va, vb] h fun v' h' => (∃ o, IO h.size h' v' o ∧ Cn o ∧ valE o = (valE a + valE b) % PN) ∧ Bel h.size h h' := by
  refine CallsH.of_code' (args := [_, _]) Try.func48 rfl rfl rfl rfl ?_
  simp (config := {maxSteps := 2000000, implicitDefEqProofs := false}) only [go_sem, ↓reduceIte, Nat.reduceEqDiff, Nat.reduceAdd, Nat.reduceMul, Nat.reduceLeDiff, Nat.reduceLT, Nat.reduceSub, IntWalk.iteOmega, IntWalk.toNatUp, reduceCtorEq, false_and, and_false, false_or, or_false, true_or, or_true, not_true_eq_false, not_false_eq_true, Bool.not_true, Bool.not_false, Bool.and_true, Bool.true_and, Bool.and_false, Bool.false_and, Bool.not_eq_true, beq_self_eq_true, Nat.add_zero, Int.reduceLE, Int.reduceLT, Int.reduceToNat, Int.reduceNeg]
  refine (curvePlus_ok T h _ _ a b sa sb wa wb).use ?_
  rintro v1 g1 ⟨⟨u, cc, o1, w1, l1, hvu⟩, b1⟩
  rw [List.take_of_length_le (by omega), List.take_of_length_le (by omega)] at hvu
  have h1 := valE_lt wa
  have h2 := valE_lt wb
  rw [la] at h1
  rw [lb] at h2
  have hc0 : cc = 0 := by
    rcases Nat.eq_zero_or_pos cc with e | e
    · exact e
    · have h3 : 1 * 65536 ^ 17 ≤ cc * 65536 ^ 17 := Nat.mul_le_mul_right _ e
      have h4 : 65536 ^ 16 + 65536 ^ 16 < 1 * 65536 ^ 17 := by decide
      omega
  rw [hc0, Nat.zero_mul, Nat.add_zero] at hvu
  simp (config := {maxSteps := 2000000, implicitDefEqProofs := false}) only [go_sem, ↓reduceIte, Nat.reduceEqDiff, Nat.reduceAdd, Nat.reduceMul, Nat.reduceLeDiff, Nat.reduceLT, Nat.reduceSub, IntWalk.iteOmega, IntWalk.toNatUp, reduceCtorEq, false_and, and_false, false_or, or_false, true_or, or_true, not_true_eq_false, not_false_eq_true, Bool.not_true, Bool.not_false, Bool.and_true, Bool.true_and, Bool.and_false, Bool.false_and, Bool.not_eq_true, beq_self_eq_true, Nat.add_zero, Int.reduceLE, Int.reduceLT, Int.reduceToNat, Int.reduceNeg]
  have h5 : valE u < H255 * 65536 ^ 16 := by
    have h4 : 65536 ^ 16 + 65536 ^ 16 < H255 * 65536 ^ 16 := by decide
    omega
  refine (curveCut_ok T g1 _ u o1.ts w1 (by omega) (by omega) h5).use ?_
  rintro v2 g2 ⟨⟨o, o2, c2, hv⟩, b2⟩
  simp (config := {maxSteps := 2000000, implicitDefEqProofs := false}) only [go_sem, ↓reduceIte, Nat.reduceEqDiff, Nat.reduceAdd, Nat.reduceMul, Nat.reduceLeDiff, Nat.reduceLT, Nat.reduceSub, IntWalk.iteOmega, IntWalk.toNatUp, reduceCtorEq, false_and, and_false, false_or, or_false, true_or, or_true, not_true_eq_false, not_false_eq_true, Bool.not_true, Bool.not_false, Bool.and_true, Bool.true_and, Bool.and_false, Bool.false_and, Bool.not_eq_true, beq_self_eq_true, Nat.add_zero, Int.reduceLE, Int.reduceLT, Int.reduceToNat, Int.reduceNeg]
  exact ⟨⟨o, o2.mono b1.size, c2, by rw [hv, hvu]⟩, b1.trans (b2.mono b1.size)⟩
theorem curveAdd_rf (T : World) (h : Hp) (va vb : Value) (a b : List Nat) (x y : Int) (sa : IT h va a) (sb : IT h vb b) (ra : Rf a x) (rb : Rf b y) :
    CallsH Try.prog T 48 #[va, vb] h fun v' h' => (∃ o, IT h' v' o ∧ Rf o (x + y)) ∧ Bel h.size h h' := by
  refine (curveAdd_ok T h va vb a b sa sb ra.1.2.1 rb.1.2.1 ra.1.1 rb.1.1).use ?_
  rintro v' h' ⟨⟨o, i, c, hv⟩, b⟩
  refine ⟨⟨o, i.ts, c, (like_mod hv).trans ?_⟩, b⟩
  rw [Int.natCast_add]
  exact ra.2.add rb.2
/-- The borrowing difference. -/
def kkD (i : Nat) : Int := if i = 0 then 65498 else 65535
def nD (b : List Nat) : Nat → List Int
  | 0 => []
  | i + 1 => nD b i ++ [kkD i - ((b.getD i 0 : Nat) : Int)]
theorem nD_length (b : List Nat) : ∀ i, (nD b i).length = i
  | 0 => rfl
  | i + 1 => by rw [nD, List.length_append, nD_length b i]; rfl
theorem nD_get (b : List Nat) : ∀ n i, i < n → (nD b n)[i]? = some (kkD i - ((b.getD i 0 : Nat) : Int))
  | 0, _, h => by omega
  | n + 1, i, h => by
    rw [nD]
    by_cases e : i = n
    · subst e
      rw [List.getElem?_append_right (by rw [nD_length]; exact Nat.le_refl _), nD_length, Nat.sub_self]; rfl
    · rw [List.getElem?_append_left (by rw [nD_length]; omega)]
      exact nD_get b n i (by omega)
def takS (b : List Nat) : Nat → Int
  | 0 => 0
  | i + 1 => takS b i + (kkD i - ((b.getD i 0 : Nat) : Int)) * 65536 ^ i
def kS : Nat → Int
  | 0 => 0
  | i + 1 => kS i + kkD i * 65536 ^ i
theorem takS_val (b : List Nat) : ∀ i, takS b i = kS i - ((valE (b.take i) : Nat) : Int)
  | 0 => by simp [takS, kS, valE]
  | i + 1 => by
    rw [takS, kS, takS_val b i, valE_take, Int.natCast_add, Int.natCast_mul, Int.natCast_pow, Int.sub_mul]
    generalize ((valE (b.take i) : Nat) : Int) = A
    generalize kkD i * 65536 ^ i = B
    show _ = kS i + B - (A + ((b.getD i 0 : Nat) : Int) * 65536 ^ i)
    generalize ((b.getD i 0 : Nat) : Int) * 65536 ^ i = C
    omega
theorem take_step {o b : List Nat} {i d : Nat} {br br' : Int} (ho : o.length = i) (hv : ((valE o : Nat) : Int) - br * 65536 ^ i = takS b i) (hd : (d : Int) - br' * 65536 = kkD i - ((b.getD i 0 : Nat) : Int) - br) :
    ((valE (o ++ [d]) : Nat) : Int) - br' * 65536 ^ (i + 1) = takS b (i + 1) := by
  rw [takS, ← hv, valE_snoc, ho, Int.natCast_add, Int.natCast_mul, Int.natCast_pow]
  have e : (kkD i - ((b.getD i 0 : Nat) : Int)) = (d : Int) - br' * 65536 + br := by omega
  rw [e, Int.pow_succ]
  show _ + (d : Int) * 65536 ^ i - _ = _
  generalize (65536 : Int) ^ i = X
  grind
abbrev ZT (h : Hp) (v : Value) (l : List Int) : Prop := Ts (fun x : Int => [Value.int .i64 x]) 1 h v l
abbrev ZO (B : Nat) (h : Hp) (v : Value) (l : List Int) : Prop := Ots B 3 (fun x : Int => [Value.int .i64 x]) 1 h v l
theorem zv_open {h : Hp} {v : Value} {l : List Int} (s : ZT h v l) : ∃ p cap, v = .slice p l.length cap ∧ (l ≠ [] → ∃ b o, p = some ⟨b, o, none⟩ ∧ b < h.size ∧ ∀ i x, l[i]? = some x → hc h ⟨b, o + i, none⟩ = some (.int .i64 x)) := by
  obtain ⟨p, cap, hv, hc1⟩ := Ts.open (enc := fun x : Int => [Value.int .i64 x]) (n := 1) (fun _ => rfl) Nat.one_ne_zero s
  refine ⟨p, cap, hv, fun hne => ?_⟩
  obtain ⟨b, o, hp, hb, hcs⟩ := hc1 hne
  refine ⟨b, o, hp, hb, fun i x hx => ?_⟩
  obtain ⟨hi, he⟩ := List.getElem?_eq_some_iff.1 hx
  have := (hcs i hi).hc (i := 0) rfl
  rw [Nat.mul_one, Nat.add_zero] at this
  rw [this, he]
set_option maxHeartbeats 2000000 in
theorem curveTake_rf (T : World) (h : Hp) (va vb : Value) (a b : List Nat) (x y : Int) (sa : IT h va a) (sb : IT h vb b) (ra : Rf a x) (rb : Rf b y) :
    CallsH Try.prog T 49 #[va, vb] h fun v' h' => (∃ o, IT h' v' o ∧ Rf o (x - y)) ∧ Bel h.size h h' := by
  obtain ⟨q, cq, rfl, hcb⟩ := nv_open sb
  have lb := rb.1.1
  obtain ⟨bb, ob, rfl, hbb, hcb⟩ := hcb (by intro e; rw [e] at lb; cases lb)
  rw [lb] at hcb sb ⊢
  refine CallsH.of_code' (args := [_, _]) Try.func49 rfl rfl rfl rfl ?_
  simp (config := {maxSteps := 2000000, implicitDefEqProofs := false}) only [go_sem, ↓reduceIte, Nat.reduceEqDiff, Nat.reduceAdd, Nat.reduceMul, Nat.reduceLeDiff, Nat.reduceLT, Nat.reduceSub, IntWalk.iteOmega, IntWalk.toNatUp, reduceCtorEq, false_and, and_false, false_or, or_false, true_or, or_true, not_true_eq_false, not_false_eq_true, Bool.not_true, Bool.not_false, Bool.and_true, Bool.true_and, Bool.and_false, Bool.false_and, Bool.not_eq_true, beq_self_eq_true, Nat.add_zero, Int.reduceLE, Int.reduceLT, Int.reduceToNat, Int.reduceNeg]
  refine VS.loop' (fun F g => Bel h.size h g ∧ F 0 = va ∧ F 1 = .slice (some ⟨bb, ob, none⟩) 16 cq ∧ ∃ i : Nat, i ≤ 16 ∧ F 6 = .int .i64 i ∧ ZO h.size g (F 5) (nD b i))
    (fun F _ => 16 - (vi (F 6)).toNat) rfl ⟨Bel.refl _ _, rfl, rfl, 0, by omega, rfl, Ots.nil _ _ _ _ _⟩ ?_
  rintro F g ⟨hg, f0, f1, i, hi, f6, ho⟩
  by_cases hlt : i < 16
  · have hlt' : (i : Int) < 16 := by omega
    have gx : V.hc g ⟨bb, ob + i, none⟩ = some (.int .i64 (b.getD i 0 : Nat)) := by rw [hg.hc (by exact hbb)]; exact hcb i hlt
    have hbi := rb.1.2.1.getD i
    obtain ⟨w, hw⟩ : ∃ w, w = b.getD i 0 := ⟨_, rfl⟩
    rw [← hw] at gx hbi
    by_cases h0 : i = 0
    · subst h0
      have hk : kkD 0 = 65498 := rfl
      have hn0 : ((0 : Nat) : Int) = 0 := rfl
      have hr : (65498 : Int) - (w : Int) = kkD 0 - ((b.getD 0 0 : Nat) : Int) := by rw [hk, hw]
      rw [hn0] at f6
      rw [Nat.add_zero] at gx
      simp (config := {maxSteps := 2000000, implicitDefEqProofs := false}) only [go_sem, ↓reduceIte, Nat.reduceEqDiff, Nat.reduceAdd, Nat.reduceMul, Nat.reduceLeDiff, Nat.reduceLT, Nat.reduceSub, IntWalk.iteOmega, IntWalk.toNatUp, reduceCtorEq, false_and, and_false, false_or, or_false, true_or, or_true, not_true_eq_false, not_false_eq_true, Bool.not_true, Bool.not_false, Bool.and_true, Bool.true_and, Bool.and_false, Bool.false_and, Bool.not_eq_true, beq_self_eq_true, Nat.add_zero, Int.reduceLE, Int.reduceLT, Int.reduceToNat, Int.reduceNeg, f0, f1, f6, gx, hr]
      refine append_ts (E := 3) (B := h.size) (n := 1) (bytes := 8) tsl72 Try.underlying72 tn3 tz3 rfl tb3 (fun _ => rfl) (ho.push _) (by have := hg.size; simp; omega) (Ts.one (enc := fun x : Int => [Value.int .i64 x]) (kkD 0 - ((b.getD 0 0 : Nat) : Int)) (fun _ => rfl) 1) ?_ (by omega) ?_
      · simp only [List.length_singleton, nD_length]; omega
      intro v' h' ho' hb2 _
      simp (config := {maxSteps := 2000000, implicitDefEqProofs := false}) only [go_sem, ↓reduceIte, Nat.reduceEqDiff, Nat.reduceAdd, Nat.reduceMul, Nat.reduceLeDiff, Nat.reduceLT, Nat.reduceSub, IntWalk.iteOmega, IntWalk.toNatUp, reduceCtorEq, false_and, and_false, false_or, or_false, true_or, or_true, not_true_eq_false, not_false_eq_true, Bool.not_true, Bool.not_false, Bool.and_true, Bool.true_and, Bool.and_false, Bool.false_and, Bool.not_eq_true, beq_self_eq_true, Nat.add_zero, Int.reduceLE, Int.reduceLT, Int.reduceToNat, Int.reduceNeg, f0, f1, f6]
      refine ⟨⟨(hg.addP hg.size _).trans hb2, f0, f1, 1, by omega, rfl, ho'⟩, ?_⟩
      simp only [vi, updo_some, ↓reduceIte, f6]; omega
    · have h0' : ¬ (i : Int) = 0 := by omega
      have hk : kkD i = 65535 := by unfold kkD; rw [if_neg h0]
      have hr : (65535 : Int) - (w : Int) = kkD i - ((b.getD i 0 : Nat) : Int) := by rw [hk, hw]
      simp (config := {maxSteps := 2000000, implicitDefEqProofs := false}) only [go_sem, ↓reduceIte, Nat.reduceEqDiff, Nat.reduceAdd, Nat.reduceMul, Nat.reduceLeDiff, Nat.reduceLT, Nat.reduceSub, IntWalk.iteOmega, IntWalk.toNatUp, reduceCtorEq, false_and, and_false, false_or, or_false, true_or, or_true, not_true_eq_false, not_false_eq_true, Bool.not_true, Bool.not_false, Bool.and_true, Bool.true_and, Bool.and_false, Bool.false_and, Bool.not_eq_true, beq_self_eq_true, Nat.add_zero, Int.reduceLE, Int.reduceLT, Int.reduceToNat, Int.reduceNeg, f0, f1, f6, hlt', h0', gx, hr]
      refine append_ts (E := 3) (B := h.size) (n := 1) (bytes := 8) tsl72 Try.underlying72 tn3 tz3 rfl tb3 (fun _ => rfl) (ho.push _) (by have := hg.size; simp; omega) (Ts.one (enc := fun x : Int => [Value.int .i64 x]) (kkD i - ((b.getD i 0 : Nat) : Int)) (fun _ => rfl) 1) ?_ (by omega) ?_
      · simp only [List.length_singleton, nD_length]; omega
      intro v' h' ho' hb2 _
      simp (config := {maxSteps := 2000000, implicitDefEqProofs := false}) only [go_sem, ↓reduceIte, Nat.reduceEqDiff, Nat.reduceAdd, Nat.reduceMul, Nat.reduceLeDiff, Nat.reduceLT, Nat.reduceSub, IntWalk.iteOmega, IntWalk.toNatUp, reduceCtorEq, false_and, and_false, false_or, or_false, true_or, or_true, not_true_eq_false, not_false_eq_true, Bool.not_true, Bool.not_false, Bool.and_true, Bool.true_and, Bool.and_false, Bool.false_and, Bool.not_eq_true, beq_self_eq_true, Nat.add_zero, Int.reduceLE, Int.reduceLT, Int.reduceToNat, Int.reduceNeg, f0, f1, f6]
      refine ⟨⟨(hg.addP hg.size _).trans hb2, f0, f1, i + 1, hlt, rfl, ho'⟩, ?_⟩
      simp only [vi, updo_some, ↓reduceIte, f6]; omega
  · have hge : ¬ (i : Int) < 16 := by omega
    obtain rfl : i = 16 := by omega
    have c16 : ((16 : Nat) : Int) = 16 := rfl
    rw [c16] at f6
    obtain ⟨pn, cn, hf5, hcn⟩ := zv_open ho.ts
    rw [nD_length] at hf5
    obtain ⟨bn, on, rfl, hbn, hcn⟩ := hcn (by intro e; have := nD_length b 16; rw [e] at this; cases this)
    simp (config := {maxSteps := 2000000, implicitDefEqProofs := false}) only [go_sem, ↓reduceIte, Nat.reduceEqDiff, Nat.reduceAdd, Nat.reduceMul, Nat.reduceLeDiff, Nat.reduceLT, Nat.reduceSub, IntWalk.iteOmega, IntWalk.toNatUp, reduceCtorEq, false_and, and_false, false_or, or_false, true_or, or_true, not_true_eq_false, not_false_eq_true, Bool.not_true, Bool.not_false, Bool.and_true, Bool.true_and, Bool.and_false, Bool.false_and, Bool.not_eq_true, beq_self_eq_true, Nat.add_zero, Int.reduceLE, Int.reduceLT, Int.reduceToNat, Int.reduceNeg, f6]
    clear f6 f1
    rename_i F0
    have hsz0 := hg.size
    refine VS.loop' (fun F g' => Bel g.size g g' ∧ F 0 = va ∧ F 5 = .slice (some ⟨bn, on, none⟩) 16 cn ∧ ∃ (i br : Nat) (o : List Nat), i ≤ 16 ∧ br ≤ 1 ∧ F 10 = .int .i64 i ∧ F 9 = .int .i64 br ∧ IO g.size g' (F 8) o ∧ Eg o ∧ o.length = i ∧ ((valE o : Nat) : Int) - (br : Int) * 65536 ^ i = takS b i)
      (fun F _ => 16 - (vi (F 10)).toNat) rfl ⟨Bel.refl _ _, f0, hf5, 0, 0, [], by omega, by omega, rfl, rfl, Ots.nil _ _ _ _ _, Eg.nil, rfl, by simp [valE, takS]⟩ ?_
    clear f0 hf5 ho
    rintro F g' ⟨hgg, f0, f5, i, br, o, hi, hbr, f10, f9, ho, wo, hoi, hv⟩
    by_cases hl16 : i < 16
    · have hl16' : (i : Int) < 16 := by omega
      have hgt := nD_get b 16 i hl16
      have gx := hcn i _ hgt
      rw [← hgg.hc (by exact hbn)] at gx
      have hbi := rb.1.2.1.getD i
      obtain ⟨z, hz⟩ : ∃ z, z = kkD i - ((b.getD i 0 : Nat) : Int) := ⟨_, rfl⟩
      rw [← hz] at gx
      have hk : kkD i = 65498 ∨ kkD i = 65535 := by unfold kkD; split <;> simp
      have hz1 : -38 ≤ z := by omega
      have hz2 : z ≤ 65535 := by omega
      by_cases hneg : z - (br : Int) < 0
      · have hd : z - (br : Int) + 65536 = (((z - (br : Int) + 65536).toNat : Nat) : Int) := by omega
        obtain ⟨d, hdd⟩ : ∃ d, d = (z - (br : Int) + 65536).toNat := ⟨_, rfl⟩
        rw [← hdd] at hd
        have hs := take_step (br' := 1) (d := d) hoi hv (by rw [← hz]; omega)
        obtain ⟨x0, hx0⟩ : ∃ x0, x0 = z - (br : Int) := ⟨_, rfl⟩
        rw [← hx0] at hneg hd
        have hx0' : z - (br : Int) = x0 := hx0.symm
        simp (config := {maxSteps := 2000000, implicitDefEqProofs := false}) only [go_sem, ↓reduceIte, Nat.reduceEqDiff, Nat.reduceAdd, Nat.reduceMul, Nat.reduceLeDiff, Nat.reduceLT, Nat.reduceSub, IntWalk.iteOmega, IntWalk.toNatUp, reduceCtorEq, false_and, and_false, false_or, or_false, true_or, or_true, not_true_eq_false, not_false_eq_true, Bool.not_true, Bool.not_false, Bool.and_true, Bool.true_and, Bool.and_false, Bool.false_and, Bool.not_eq_true, beq_self_eq_true, Nat.add_zero, Int.reduceLE, Int.reduceLT, Int.reduceToNat, Int.reduceNeg, f0, f5, f9, f10, hl16', gx, hx0', hneg, hd]
        refine append_ts (E := 3) (B := g.size) (n := 1) (bytes := 8) tsl72 Try.underlying72 tn3 tz3 rfl tb3 (fun _ => rfl) (ho.push _) (by have := hgg.size; simp; omega) (Ts.one (enc := fun x => [nv x]) d (fun _ => rfl) 1) ?_ (by omega) ?_
        · simp only [List.length_singleton]; omega
        intro v' h' ho' hb2 _
        simp (config := {maxSteps := 2000000, implicitDefEqProofs := false}) only [go_sem, ↓reduceIte, Nat.reduceEqDiff, Nat.reduceAdd, Nat.reduceMul, Nat.reduceLeDiff, Nat.reduceLT, Nat.reduceSub, IntWalk.iteOmega, IntWalk.toNatUp, reduceCtorEq, false_and, and_false, false_or, or_false, true_or, or_true, not_true_eq_false, not_false_eq_true, Bool.not_true, Bool.not_false, Bool.and_true, Bool.true_and, Bool.and_false, Bool.false_and, Bool.not_eq_true, beq_self_eq_true, Nat.add_zero, Int.reduceLE, Int.reduceLT, Int.reduceToNat, Int.reduceNeg, f0, f5, f10]
        refine ⟨⟨(hgg.addP hgg.size _).trans hb2, f0, f5, i + 1, 1, o ++ [d], hl16, by omega, rfl, rfl, ho', wo.snoc (by omega), by rw [List.length_append, hoi]; rfl, hs⟩, ?_⟩
        simp only [vi, updo_some, ↓reduceIte, f10]; omega
      · have hd : z - (br : Int) = (((z - (br : Int)).toNat : Nat) : Int) := by omega
        obtain ⟨d, hdd⟩ : ∃ d, d = (z - (br : Int)).toNat := ⟨_, rfl⟩
        rw [← hdd] at hd
        have hs := take_step (br' := 0) (d := d) hoi hv (by rw [← hz]; omega)
        rw [hd] at hneg
        simp (config := {maxSteps := 2000000, implicitDefEqProofs := false}) only [go_sem, ↓reduceIte, Nat.reduceEqDiff, Nat.reduceAdd, Nat.reduceMul, Nat.reduceLeDiff, Nat.reduceLT, Nat.reduceSub, IntWalk.iteOmega, IntWalk.toNatUp, reduceCtorEq, false_and, and_false, false_or, or_false, true_or, or_true, not_true_eq_false, not_false_eq_true, Bool.not_true, Bool.not_false, Bool.and_true, Bool.true_and, Bool.and_false, Bool.false_and, Bool.not_eq_true, beq_self_eq_true, Nat.add_zero, Int.reduceLE, Int.reduceLT, Int.reduceToNat, Int.reduceNeg, f0, f5, f9, f10, hl16', gx, hd, hneg]
        refine append_ts (E := 3) (B := g.size) (n := 1) (bytes := 8) tsl72 Try.underlying72 tn3 tz3 rfl tb3 (fun _ => rfl) (ho.push _) (by have := hgg.size; simp; omega) (Ts.one (enc := fun x => [nv x]) d (fun _ => rfl) 1) ?_ (by omega) ?_
        · simp only [List.length_singleton]; omega
        intro v' h' ho' hb2 _
        simp (config := {maxSteps := 2000000, implicitDefEqProofs := false}) only [go_sem, ↓reduceIte, Nat.reduceEqDiff, Nat.reduceAdd, Nat.reduceMul, Nat.reduceLeDiff, Nat.reduceLT, Nat.reduceSub, IntWalk.iteOmega, IntWalk.toNatUp, reduceCtorEq, false_and, and_false, false_or, or_false, true_or, or_true, not_true_eq_false, not_false_eq_true, Bool.not_true, Bool.not_false, Bool.and_true, Bool.true_and, Bool.and_false, Bool.false_and, Bool.not_eq_true, beq_self_eq_true, Nat.add_zero, Int.reduceLE, Int.reduceLT, Int.reduceToNat, Int.reduceNeg, f0, f5, f10]
        refine ⟨⟨(hgg.addP hgg.size _).trans hb2, f0, f5, i + 1, 0, o ++ [d], hl16, by omega, rfl, rfl, ho', wo.snoc (by omega), by rw [List.length_append, hoi]; rfl, hs⟩, ?_⟩
        simp only [vi, updo_some, ↓reduceIte, f10]; omega
    · have hge : ¬ (i : Int) < 16 := by omega
      obtain rfl : i = 16 := by omega
      rw [c16] at f10
      have hval := takS_val b 16
      rw [List.take_of_length_le (by omega), show kS 16 = 115792089237316195423570985008687907853269984665640564039457584007913129639898 by decide] at hval
      rw [hval] at hv
      have hlo := valE_lt wo
      rw [hoi] at hlo
      have hbl := rb.1.2.2
      have h16 : (65536 : Nat) ^ 16 = 115792089237316195423570985008687907853269984665640564039457584007913129639936 := by decide
      have h16z : (65536 : Int) ^ 16 = 115792089237316195423570985008687907853269984665640564039457584007913129639936 := by decide
      rw [h16] at hlo
      rw [h16z] at hv
      have hPN : PN = 57896044618658097711785492504343953926634992332820282019728792003956564819949 := rfl
      rw [hPN] at hbl
      have hbr0 : br = 0 := by omega
      subst hbr0
      have hvn : ((valE o : Nat) : Int) = 2 * P255 - ((valE b : Nat) : Int) := by
        rw [show (2 : Int) * P255 = 115792089237316195423570985008687907853269984665640564039457584007913129639898 by decide]; omega
      simp (config := {maxSteps := 2000000, implicitDefEqProofs := false}) only [go_sem, ↓reduceIte, Nat.reduceEqDiff, Nat.reduceAdd, Nat.reduceMul, Nat.reduceLeDiff, Nat.reduceLT, Nat.reduceSub, IntWalk.iteOmega, IntWalk.toNatUp, reduceCtorEq, false_and, and_false, false_or, or_false, true_or, or_true, not_true_eq_false, not_false_eq_true, Bool.not_true, Bool.not_false, Bool.and_true, Bool.true_and, Bool.and_false, Bool.false_and, Bool.not_eq_true, beq_self_eq_true, Nat.add_zero, Int.reduceLE, Int.reduceLT, Int.reduceToNat, Int.reduceNeg, f0, f10]
      refine (curveAdd_ok T g' _ _ a o ((sa.bel hg).bel (hgg)) ho.ts ra.1.2.1 wo ra.1.1 hoi).use ?_
      rintro v2 g2 ⟨⟨e, o2, c2, he⟩, b2⟩
      have hfin : Rf e (x - y) := by
        refine ⟨c2, (like_mod he).trans ?_⟩
        rw [Int.natCast_add, hvn]
        have h1 := ra.2
        have h2 := rb.2
        have h3 : Like (2 * P255 - ((valE b : Nat) : Int)) (0 - y) := by
          refine Like.sub ?_ h2
          unfold Like; decide
        have h4 := h1.add h3
        rwa [show x + (0 - y) = x - y by omega] at h4
      simp (config := {maxSteps := 2000000, implicitDefEqProofs := false}) only [go_sem, ↓reduceIte, Nat.reduceEqDiff, Nat.reduceAdd, Nat.reduceMul, Nat.reduceLeDiff, Nat.reduceLT, Nat.reduceSub, IntWalk.iteOmega, IntWalk.toNatUp, reduceCtorEq, false_and, and_false, false_or, or_false, true_or, or_true, not_true_eq_false, not_false_eq_true, Bool.not_true, Bool.not_false, Bool.and_true, Bool.true_and, Bool.and_false, Bool.false_and, Bool.not_eq_true, beq_self_eq_true, Nat.add_zero, Int.reduceLE, Int.reduceLT, Int.reduceToNat, Int.reduceNeg]
      exact ⟨⟨e, o2.ts, hfin⟩, (hg.trans (hgg.mono hsz0)).trans (b2.mono (by have := hgg.size; omega))⟩
end Go.Proofs.Ytiakfdpmapmifaa
