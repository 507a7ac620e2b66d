/- One block of the digest: what the document computes; no condition but those in the statements. -/
import Derived.Test.YtnpacofabdgcdaaDoorTabs
import Derived.Test.YtnpacofabdgcdaaDoorW18
namespace Go.Proofs.YtnpacofabdgcdaaDoor
open Go Go.V
set_option linter.unusedSimpArgs false
set_option linter.unusedVariables false
set_option maxRecDepth 100000
abbrev NT (h : Hp) (v : Value) (l : List Nat) : Prop := Ts (fun x => [nv x]) 1 h v l
abbrev NO (B : Nat) (h : Hp) (v : Value) (l : List Nat) : Prop := Ots B 3 (fun x => [nv x]) 1 h v l
theorem schedule_ok (T : World) (h : Hp) (v : Value) (b : List Nat) (sb : Bs h v b) (hb : b.length = 64) :
    CallsH Tryd.prog T 168 #[v] h fun v' h' => NO h.size h' v' (schL b 64) ∧ Bel h.size h h' := by
  obtain ⟨p, c, rfl, hc1⟩ := sb.opend
  obtain ⟨bb, ob, rfl, hbb, hcs⟩ := hc1 (by intro e; subst e; simp at hb)
  have hbt : Byte b := sb.byte
  refine CallsH.of_code' (args := [_]) Tryd.func168 rfl rfl rfl rfl ?_
  rw [hb]
  simp (config := {maxSteps := 2000000, implicitDefEqProofs := false}) only [go_sem, ↓reduceIte, Nat.reduceEqDiff, Nat.reduceAdd, Nat.reduceMul, Nat.reduceLeDiff, Nat.reduceLT, Nat.reduceSub, IntWalk.iteOmega, IntWalk.toNatUp, reduceCtorEq, Int.reduceLE, Int.reduceLT, Int.reduceToNat, Int.reduceNeg]
  refine VS.loop' (fun F g => Bel h.size h g ∧ F 0 = .slice (some ⟨bb, ob, none⟩) 64 c ∧ ∃ i : Nat, i ≤ 16 ∧ F 4 = .int .i64 i ∧ NO h.size g (F 3) (schL b i))
    (fun F _ => 16 - (vi (F 4)).toNat) rfl ⟨Bel.refl _ _, rfl, 0, by omega, rfl, Ots.nil _ _ _ _ _⟩ ?_
  rintro F g ⟨hg, f0, i, hi, f4, ho⟩
  by_cases hlt : i < 16
  · have hlt' : (i : Int) < 16 := by omega
    have g0 : ∀ j, j < 64 → V.hc g ⟨bb, ob + j, none⟩ = some (.int .u8 (b.getD j 0 : Nat)) := fun j hj => by rw [hg.hc (by exact hbb)]; exact hcs j (by omega)
    have e0 := g0 (4 * i) (by omega)
    have e1 := g0 (4 * i + 1) (by omega)
    have e2 := g0 (4 * i + 2) (by omega)
    have e3 := g0 (4 * i + 3) (by omega)
    have y0 := getD_byte hbt (4 * i)
    have y1 := getD_byte hbt (4 * i + 1)
    have y2 := getD_byte hbt (4 * i + 2)
    have y3 := getD_byte hbt (4 * i + 3)
    have t0 : (4 * (i : Int)).toNat = 4 * i := by omega
    have t1 : (4 * (i : Int) + 1).toNat = 4 * i + 1 := by omega
    have t2 : (4 * (i : Int) + 2).toNat = 4 * i + 2 := by omega
    have t3 : (4 * (i : Int) + 3).toNat = 4 * i + 3 := by omega
    have eX : schL b (i + 1) = schL b i ++ [be4 b (4 * i)] := by rw [schL, schN, schL_length, if_pos hlt]
    have eb : be4 b (4 * i) = b.getD (4 * i) 0 * 16777216 + b.getD (4 * i + 1) 0 * 65536 + b.getD (4 * i + 2) 0 * 256 + b.getD (4 * i + 3) 0 := rfl
    generalize be4 b (4 * i) = X at *
    generalize b.getD (4 * i) 0 = z0 at *
    generalize b.getD (4 * i + 1) 0 = z1 at *
    generalize b.getD (4 * i + 2) 0 = z2 at *
    generalize b.getD (4 * i + 3) 0 = z3 at *
    have eo : 16777216 * (z0 : Int) + 65536 * (z1 : Int) + 256 * (z2 : Int) + (z3 : Int) = (X : Int) := by omega
    have hbb2 : bb < g.size := Nat.lt_of_lt_of_le hbb hg.size
    simp (config := {maxSteps := 2000000, implicitDefEqProofs := false}) only [go_sem, ↓reduceIte, Nat.reduceEqDiff, Nat.reduceAdd, Nat.reduceMul, Nat.reduceLeDiff, Nat.reduceLT, Nat.reduceSub, IntWalk.iteOmega, IntWalk.toNatUp, reduceCtorEq, Int.reduceLE, Int.reduceLT, Int.reduceToNat, Int.reduceNeg, f0, f4, hlt']
    refine VS.w (g.size) [35, 36] (.q 0 (.q 1 (.q 2 (.q 3 (.q 4 (.q 5 (.q 6 (.q 7 (.q 8 (.q 9 (.q 10 (.q 11 (.q 12 (.q 13 (.q 14 (.q 15 (.q 16 (.q 17 (.q 18 (.q 19 (.q 20 (.q 21 (.q 22 (.q 23 (.q 24 (.q 25 (.q 26 (.q 27 (.q 28 (.q 29 (.q 30 (.q 31 (.q 32 (.q 33 (.s 34 (.w 35 (.w 36 .nil))))))))))))))))))))))))))))))))))))) mixed (by kernel_rfl) ?_
    simp (config := {maxSteps := 2000000, implicitDefEqProofs := false}) only [go_sem, ↓reduceIte, Nat.reduceEqDiff, Nat.reduceAdd, Nat.reduceMul, Nat.reduceLeDiff, Nat.reduceLT, Nat.reduceSub, IntWalk.iteOmega, IntWalk.toNatUp, reduceCtorEq, Int.reduceLE, Int.reduceLT, Int.reduceToNat, Int.reduceNeg, f0, f4, e0, e1, e2, e3, t0, t1, t2, t3, eo, hbb2]
    refine append_ts (E := 3) (B := h.size) (n := 1) (bytes := 8) tsl155 Tryd.underlying155 tn3 tz3 rfl tb3 (fun _ => rfl) (ho.push _) (by have := hg.size; simp; omega) (Ts.one (enc := fun x => [nv x]) X (fun _ => rfl) 1) ?_ (by omega) ?_
    · simp only [schL_length, List.length_singleton]; omega
    intro v' h' ho' hb' _
    simp (config := {maxSteps := 2000000, implicitDefEqProofs := false}) only [go_sem, ↓reduceIte, Nat.reduceEqDiff, Nat.reduceAdd, Nat.reduceMul, Nat.reduceLeDiff, Nat.reduceLT, Nat.reduceSub, IntWalk.iteOmega, IntWalk.toNatUp, reduceCtorEq, Int.reduceLE, Int.reduceLT, Int.reduceToNat, Int.reduceNeg, f0, f4]
    refine ⟨⟨(hg.addP hg.size _).trans hb', f0, i + 1, hlt, rfl, ?_⟩, ?_⟩
    · rw [eX]; exact ho'
    · simp only [vi, updo_some, ↓reduceIte, f4]; omega
  · have hge : ¬ (i : Int) < 16 := by omega
    obtain rfl : i = 16 := by omega
    simp (config := {maxSteps := 2000000, implicitDefEqProofs := false}) only [go_sem, ↓reduceIte, Nat.reduceEqDiff, Nat.reduceAdd, Nat.reduceMul, Nat.reduceLeDiff, Nat.reduceLT, Nat.reduceSub, IntWalk.iteOmega, IntWalk.toNatUp, reduceCtorEq, Int.reduceLE, Int.reduceLT, Int.reduceToNat, Int.reduceNeg, f0, f4, hge]
    refine VS.loop' (fun F g => Bel h.size h g ∧ ∃ i : Nat, 16 ≤ i ∧ i ≤ 64 ∧ F 5 = .int .i64 i ∧ NO h.size g (F 3) (schL b i))
      (fun F _ => 64 - (vi (F 5)).toNat) rfl ⟨hg, 16, by omega, by omega, rfl, ho⟩ ?_
    clear f0 f4 ho hg hge hi hlt F g
    rintro F g ⟨hg, i, h16, hi, f5, ho⟩
    by_cases hlt : i < 64
    · have hlt' : (i : Int) < 64 := by omega
      obtain ⟨p, cap, f3, hcw⟩ := nv_open ho.ts
      rw [schL_length] at f3 hcw
      obtain ⟨bw, ow, rfl, hbw, hcw⟩ := hcw (by intro e; have := congrArg List.length e; rw [schL_length] at this; simp at this; omega)
      have q1 := hcw (i - 15) (by omega)
      have q2 := hcw (i - 2) (by omega)
      have q3 := hcw (i - 16) (by omega)
      have q4 := hcw (i - 7) (by omega)
      have eX : schL b (i + 1) = schL b i ++ [((schL b i).getD (i - 16) 0 + sg0 ((schL b i).getD (i - 15) 0) + (schL b i).getD (i - 7) 0 + sg1 ((schL b i).getD (i - 2) 0)) % 4294967296] := by
        rw [schL, schN, schL_length, if_neg (by omega)]
      have hA : (schL b i).getD (i - 15) 0 < 4294967296 := (schL_w32 hbt i).getD _
      have hC : (schL b i).getD (i - 2) 0 < 4294967296 := (schL_w32 hbt i).getD _
      have hE1 : (schL b i).getD (i - 16) 0 < 4294967296 := (schL_w32 hbt i).getD _
      have hE2 : (schL b i).getD (i - 7) 0 < 4294967296 := (schL_w32 hbt i).getD _
      have hlen := schL_length b i
      generalize (schL b i).getD (i - 15) 0 = A at *
      generalize (schL b i).getD (i - 2) 0 = C at *
      generalize (schL b i).getD (i - 16) 0 = E1 at *
      generalize (schL b i).getD (i - 7) 0 = E2 at *
      have t1 : ((i : Int) - 15).toNat = i - 15 := by clear eX; omega
      have t2 : ((i : Int) - 2).toNat = i - 2 := by clear eX; omega
      have t3 : ((i : Int) - 16).toNat = i - 16 := by clear eX; omega
      have t4 : ((i : Int) - 7).toNat = i - 7 := by clear eX; omega
      have l1 := sg0_lt hA
      have l2 := sg1_lt hC
      obtain ⟨yA, hyA⟩ : ∃ y : Int, y = (A : Int) := ⟨_, rfl⟩
      obtain ⟨yC, hyC⟩ : ∃ y : Int, y = (C : Int) := ⟨_, rfl⟩
      obtain ⟨yE, hyE⟩ : ∃ y : Int, y = (E1 : Int) := ⟨_, rfl⟩
      obtain ⟨yF, hyF⟩ : ∃ y : Int, y = (E2 : Int) := ⟨_, rfl⟩
      obtain ⟨r7, hr7⟩ : ∃ y : Int, y = ((rr A 7 : Nat) : Int) := ⟨_, rfl⟩
      obtain ⟨r18, hr18⟩ : ∃ y : Int, y = ((rr A 18 : Nat) : Int) := ⟨_, rfl⟩
      obtain ⟨r25, hr25⟩ : ∃ y : Int, y = ((rr A 7 ^^^ rr A 18 : Nat) : Int) := ⟨_, rfl⟩
      obtain ⟨d8, hd8⟩ : ∃ y : Int, y = ((A / 8 : Nat) : Int) := ⟨_, rfl⟩
      obtain ⟨s0, hs0⟩ : ∃ y : Int, y = ((sg0 A : Nat) : Int) := ⟨_, rfl⟩
      obtain ⟨r17, hr17⟩ : ∃ y : Int, y = ((rr C 17 : Nat) : Int) := ⟨_, rfl⟩
      obtain ⟨r19, hr19⟩ : ∃ y : Int, y = ((rr C 19 : Nat) : Int) := ⟨_, rfl⟩
      obtain ⟨r36, hr36⟩ : ∃ y : Int, y = ((rr C 17 ^^^ rr C 19 : Nat) : Int) := ⟨_, rfl⟩
      obtain ⟨d10, hd10⟩ : ∃ y : Int, y = ((C / 1024 : Nat) : Int) := ⟨_, rfl⟩
      obtain ⟨s1, hs1⟩ : ∃ y : Int, y = ((sg1 C : Nat) : Int) := ⟨_, rfl⟩
      obtain ⟨xS, hxS⟩ : ∃ y : Int, y = ((E1 + sg0 A + E2 + sg1 C : Nat) : Int) := ⟨_, rfl⟩
      obtain ⟨X, hX⟩ : ∃ X, X = (E1 + sg0 A + E2 + sg1 C) % 4294967296 := ⟨_, rfl⟩
      have u1 : ∀ h, CallsH Tryd.prog T 170 #[.int .i64 yA, .int .i64 7] h fun v' h' => v' = .int .i64 r7 ∧ h' = h := fun h => by rw [hyA, hr7]; exact turned_ok T h A 7 hA (by decide)
      have u2 : ∀ h, CallsH Tryd.prog T 170 #[.int .i64 yA, .int .i64 18] h fun v' h' => v' = .int .i64 r18 ∧ h' = h := fun h => by rw [hyA, hr18]; exact turned_ok T h A 18 hA (by decide)
      have u3 : ∀ h, CallsH Tryd.prog T 170 #[.int .i64 yC, .int .i64 17] h fun v' h' => v' = .int .i64 r17 ∧ h' = h := fun h => by rw [hyC, hr17]; exact turned_ok T h C 17 hC (by decide)
      have u4 : ∀ h, CallsH Tryd.prog T 170 #[.int .i64 yC, .int .i64 19] h fun v' h' => v' = .int .i64 r19 ∧ h' = h := fun h => by rw [hyC, hr19]; exact turned_ok T h C 19 hC (by decide)
      have w32 : ∀ h, CallsH Tryd.prog T 171 #[.int .i64 xS] h fun v' h' => v' = .int .i64 (X : Nat) ∧ h' = h := fun h => by rw [hxS, hX]; exact word32_ok T h _
      have v1 : Unit → yA.tdiv 8 = d8 := fun _ => by rw [hyA, hd8]; rfl
      have v2 : Unit → yC.tdiv 1024 = d10 := fun _ => by rw [hyC, hd10]; rfl
      have o1 : Unit → bitOp .xor .i64 r7 r18 = r25 := fun _ => by rw [hr7, hr18, hr25]; exact x64 (rr_lt hA) (rr_lt hA)
      have o2 : Unit → bitOp .xor .i64 r25 d8 = s0 := fun _ => by rw [hr25, hd8, hs0]; exact x64 (xor_lt32 (rr_lt hA) (rr_lt hA)) (div_lt32 hA)
      have o3 : Unit → bitOp .xor .i64 r17 r19 = r36 := fun _ => by rw [hr17, hr19, hr36]; exact x64 (rr_lt hC) (rr_lt hC)
      have o4 : Unit → bitOp .xor .i64 r36 d10 = s1 := fun _ => by rw [hr36, hd10, hs1]; exact x64 (xor_lt32 (rr_lt hC) (rr_lt hC)) (div_lt32 hC)
      have e5 : Unit → yE + s0 + yF + s1 = xS := fun _ => by rw [hyE, hs0, hyF, hs1, hxS]; clear eX hX; omega
      have bb : (0 ≤ yE ∧ yE < 4294967296) ∧ (0 ≤ yF ∧ yF < 4294967296) ∧ (0 ≤ s0 ∧ s0 < 4294967296) ∧ (0 ≤ s1 ∧ s1 < 4294967296) ∧ (0 ≤ yA ∧ yA < 4294967296) ∧ (0 ≤ yC ∧ yC < 4294967296) ∧ (0 ≤ d8 ∧ d8 < 4294967296) ∧ (0 ≤ d10 ∧ d10 < 4294967296) ∧ 0 ≤ xS ∧ xS ≤ 30000000000 := by
        have z1 := div_lt32 (k := 8) hA
        have z2 := div_lt32 (k := 1024) hC
        rw [hyE, hyF, hs0, hs1, hyA, hyC, hd8, hd10, hxS]; clear eX hX; omega
      rw [← hyA] at q1
      rw [← hyC] at q2
      rw [← hyE] at q3
      rw [← hyF] at q4
      rw [← hX] at eX
      clear hX hxS hyA hyC hyE hyF hr7 hr18 hr25 hd8 hs0 hr17 hr19 hr36 hd10 hs1 l1 l2 hA hC hE1 hE2
      obtain ⟨⟨bb1, bb2⟩, ⟨bb3, bb4⟩, ⟨bb5, bb6⟩, ⟨bb7, bb8⟩, ⟨bb9, bb10⟩, ⟨bb11, bb12⟩, ⟨bb13, bb14⟩, ⟨bb15, bb16⟩, bb17, bb18⟩ := bb
      simp (config := {maxSteps := 2000000, implicitDefEqProofs := false}) only [go_sem, ↓reduceIte, Nat.reduceEqDiff, Nat.reduceAdd, Nat.reduceMul, Nat.reduceLeDiff, Nat.reduceLT, Nat.reduceSub, IntWalk.iteOmega, IntWalk.toNatUp, reduceCtorEq, Int.reduceLE, Int.reduceLT, Int.reduceToNat, Int.reduceNeg, f3, f5, hlt']
      refine VS.q mixed (by kernel_rfl) ?_
      simp (config := {maxSteps := 2000000, implicitDefEqProofs := false}) only [go_sem, ↓reduceIte, Nat.reduceEqDiff, Nat.reduceAdd, Nat.reduceMul, Nat.reduceLeDiff, Nat.reduceLT, Nat.reduceSub, IntWalk.iteOmega, IntWalk.toNatUp, reduceCtorEq, Int.reduceLE, Int.reduceLT, Int.reduceToNat, Int.reduceNeg, f3, f5, q1, t1]
      refine stillCallQ (u1 _) ?_
      simp (config := {maxSteps := 2000000, implicitDefEqProofs := false}) only [go_sem, ↓reduceIte, Nat.reduceEqDiff, Nat.reduceAdd, Nat.reduceMul, Nat.reduceLeDiff, Nat.reduceLT, Nat.reduceSub, IntWalk.iteOmega, IntWalk.toNatUp, reduceCtorEq, Int.reduceLE, Int.reduceLT, Int.reduceToNat, Int.reduceNeg, f3, f5, q1, t1]
      refine stillCallQ (u2 _) ?_
      simp (config := {maxSteps := 2000000, implicitDefEqProofs := false}) only [go_sem, ↓reduceIte, Nat.reduceEqDiff, Nat.reduceAdd, Nat.reduceMul, Nat.reduceLeDiff, Nat.reduceLT, Nat.reduceSub, IntWalk.iteOmega, IntWalk.toNatUp, reduceCtorEq, Int.reduceLE, Int.reduceLT, Int.reduceToNat, Int.reduceNeg, f3, f5, q1, t1, o1 (), o2 (), v1 ()]
      refine VS.q mixed (by kernel_rfl) ?_
      simp (config := {maxSteps := 2000000, implicitDefEqProofs := false}) only [go_sem, ↓reduceIte, Nat.reduceEqDiff, Nat.reduceAdd, Nat.reduceMul, Nat.reduceLeDiff, Nat.reduceLT, Nat.reduceSub, IntWalk.iteOmega, IntWalk.toNatUp, reduceCtorEq, Int.reduceLE, Int.reduceLT, Int.reduceToNat, Int.reduceNeg, f3, f5, q2, t2]
      refine stillCallQ (u3 _) ?_
      simp (config := {maxSteps := 2000000, implicitDefEqProofs := false}) only [go_sem, ↓reduceIte, Nat.reduceEqDiff, Nat.reduceAdd, Nat.reduceMul, Nat.reduceLeDiff, Nat.reduceLT, Nat.reduceSub, IntWalk.iteOmega, IntWalk.toNatUp, reduceCtorEq, Int.reduceLE, Int.reduceLT, Int.reduceToNat, Int.reduceNeg, f3, f5, q2, t2]
      refine stillCallQ (u4 _) ?_
      simp (config := {maxSteps := 2000000, implicitDefEqProofs := false}) only [go_sem, ↓reduceIte, Nat.reduceEqDiff, Nat.reduceAdd, Nat.reduceMul, Nat.reduceLeDiff, Nat.reduceLT, Nat.reduceSub, IntWalk.iteOmega, IntWalk.toNatUp, reduceCtorEq, Int.reduceLE, Int.reduceLT, Int.reduceToNat, Int.reduceNeg, f3, f5, q2, t2, o3 (), o4 (), v2 ()]
      refine VS.w (g.size) [18, 19] (.q 0 (.q 1 (.q 2 (.q 3 (.q 4 (.q 5 (.q 6 (.q 7 (.q 8 (.q 9 (.q 10 (.q 11 (.q 12 (.q 13 (.q 14 (.q 15 (.q 16 (.s 17 (.w 18 (.w 19 .nil)))))))))))))))))))) mixed (by kernel_rfl) ?_
      simp (config := {maxSteps := 2000000, implicitDefEqProofs := false}) only [go_sem, ↓reduceIte, Nat.reduceEqDiff, Nat.reduceAdd, Nat.reduceMul, Nat.reduceLeDiff, Nat.reduceLT, Nat.reduceSub, IntWalk.iteOmega, IntWalk.toNatUp, reduceCtorEq, Int.reduceLE, Int.reduceLT, Int.reduceToNat, Int.reduceNeg, f3, f5, q3, q4, t3, t4, hbw, e5 ()]
      refine stillCall w32 ?_
      simp (config := {maxSteps := 2000000, implicitDefEqProofs := false}) only [go_sem, ↓reduceIte, Nat.reduceEqDiff, Nat.reduceAdd, Nat.reduceMul, Nat.reduceLeDiff, Nat.reduceLT, Nat.reduceSub, IntWalk.iteOmega, IntWalk.toNatUp, reduceCtorEq, Int.reduceLE, Int.reduceLT, Int.reduceToNat, Int.reduceNeg, f3, f5]
      have ho2 := ho
      rw [f3] at ho2
      refine append_ts (E := 3) (B := h.size) (n := 1) (bytes := 8) tsl155 Tryd.underlying155 tn3 tz3 rfl tb3 (fun _ => rfl) (ho2.push _) (by have := hg.size; simp; omega) (Ts.one (enc := fun x => [nv x]) X (fun _ => rfl) 1) ?_ (by omega) ?_
      · simp only [schL_length, List.length_singleton]; omega
      intro v' h' ho' hb' _
      simp (config := {maxSteps := 2000000, implicitDefEqProofs := false}) only [go_sem, ↓reduceIte, Nat.reduceEqDiff, Nat.reduceAdd, Nat.reduceMul, Nat.reduceLeDiff, Nat.reduceLT, Nat.reduceSub, IntWalk.iteOmega, IntWalk.toNatUp, reduceCtorEq, Int.reduceLE, Int.reduceLT, Int.reduceToNat, Int.reduceNeg, f5]
      refine ⟨⟨(hg.addP hg.size _).trans hb', i + 1, by omega, hlt, rfl, ?_⟩, ?_⟩
      · rw [eX]; exact ho'
      · simp only [vi, updo_some, ↓reduceIte, f5]; omega
    · have hge : ¬ (i : Int) < 64 := by omega
      obtain rfl : i = 64 := by omega
      simp (config := {maxSteps := 2000000, implicitDefEqProofs := false}) only [go_sem, ↓reduceIte, Nat.reduceEqDiff, Nat.reduceAdd, Nat.reduceMul, Nat.reduceLeDiff, Nat.reduceLT, Nat.reduceSub, IntWalk.iteOmega, IntWalk.toNatUp, reduceCtorEq, Int.reduceLE, Int.reduceLT, Int.reduceToNat, Int.reduceNeg, f5, hge]
      exact ⟨ho, hg⟩
theorem roots_ok (T : World) (h : Hp) :
    CallsH Tryd.prog T 169 #[] h fun v' h' => NT h' v' kN ∧ Bel h.size h h' := by
  refine CallsH.of_code' (args := []) Tryd.func169 rfl rfl rfl rfl ?_
  simp (config := {maxSteps := 2000000, implicitDefEqProofs := false}) only [go_sem, ↓reduceIte, Nat.reduceEqDiff, Nat.reduceAdd, Nat.reduceMul, Nat.reduceLeDiff, Nat.reduceLT, Nat.reduceSub, IntWalk.iteOmega, IntWalk.toNatUp, reduceCtorEq, Int.reduceLE, Int.reduceLT, Int.reduceToNat, Int.reduceNeg]
  refine Ts.mk ?_
  have e : encs (fun x => [nv x]) kN = kN.map nv := encs_one nv kN
  rw [e]
  exact Sl.made (cs := kN.map nv) (by rw [List.length_map]; rfl) 64
theorem compressed_ok (T : World) (h : Hp) (u v : Value) (d b : List Nat) (su : NT h u d) (hd : d.length = 8) (wd : W32 d) (sb : Bs h v b) (hb : b.length = 64) :
    CallsH Tryd.prog T 121 #[u, v] h fun v' h' => NO h.size h' v' (compW d b) ∧ Bel h.size h h' := by
  have hbt : Byte b := sb.byte
  refine CallsH.of_code' (args := [_, _]) Tryd.func121 rfl rfl rfl rfl ?_
  simp (config := {maxSteps := 2000000, implicitDefEqProofs := false}) only [go_sem, ↓reduceIte, Nat.reduceEqDiff, Nat.reduceAdd, Nat.reduceMul, Nat.reduceLeDiff, Nat.reduceLT, Nat.reduceSub, IntWalk.iteOmega, IntWalk.toNatUp, reduceCtorEq, Int.reduceLE, Int.reduceLT, Int.reduceToNat, Int.reduceNeg]
  refine (schedule_ok T h v b sb hb).use ?_
  rintro w h1 ⟨ow, b1⟩
  simp (config := {maxSteps := 2000000, implicitDefEqProofs := false}) only [go_sem, ↓reduceIte, Nat.reduceEqDiff, Nat.reduceAdd, Nat.reduceMul, Nat.reduceLeDiff, Nat.reduceLT, Nat.reduceSub, IntWalk.iteOmega, IntWalk.toNatUp, reduceCtorEq, Int.reduceLE, Int.reduceLT, Int.reduceToNat, Int.reduceNeg]
  refine (roots_ok T h1).use ?_
  rintro k h2 ⟨sk, b2⟩
  have B2 := b1.trans (b2.mono b1.size)
  have sw := ow.ts.bel b2
  simp (config := {maxSteps := 2000000, implicitDefEqProofs := false}) only [go_sem, ↓reduceIte, Nat.reduceEqDiff, Nat.reduceAdd, Nat.reduceMul, Nat.reduceLeDiff, Nat.reduceLT, Nat.reduceSub, IntWalk.iteOmega, IntWalk.toNatUp, reduceCtorEq, Int.reduceLE, Int.reduceLT, Int.reduceToNat, Int.reduceNeg]
  refine VS.loop' (fun F g => Bel h.size h g ∧ F 0 = u ∧ F 5 = w ∧ F 6 = k ∧ NT g w (schL b 64) ∧ NT g k kN ∧ ∃ i : Nat, i ≤ 64 ∧ F 8 = .int .i64 i ∧ NT g (F 7) (srnds b d i))
    (fun F _ => 64 - (vi (F 8)).toNat) rfl ⟨B2, rfl, rfl, rfl, sw, sk, 0, by omega, rfl, (su.bel B2)⟩ ?_
  clear ow b1 sk b2 B2 sw h1 h2
  rintro F g ⟨hg, f0, f5, f6, sw, sk, i, hi, f8, sv⟩
  obtain ⟨v8, w8⟩ := srnds_ok (b := b) hd wd i
  by_cases hlt : i < 64
  · have hlt' : (i : Int) < 64 := by omega
    have eN : srnds b d (i + 1) = srnd (srnds b d i) (kN.getD i 0) ((schL b 64).getD i 0) := rfl
    obtain ⟨a, b', c, d', e, f, g', k', hst⟩ := eight v8
    have hK : kN.getD i 0 < 4294967296 := kN_w32.getD i
    have hW : (schL b 64).getD i 0 < 4294967296 := (schL_w32 hbt 64).getD i
    have hres : srnd (srnds b d i) (kN.getD i 0) ((schL b 64).getD i 0) = [(upw e f g' k' (kN.getD i 0) ((schL b 64).getD i 0) + bg0 a + majw a b' c) % 4294967296, a, b', c, (d' + upw e f g' k' (kN.getD i 0) ((schL b 64).getD i 0)) % 4294967296, e, f, g'] := by rw [hst]; rfl
    rw [← eN] at hres
    clear eN
    obtain ⟨pv, cv, f7, hcv⟩ := nv_open sv
    obtain ⟨bv, ov, rfl, hbv, hcv⟩ := hcv (by intro e; rw [e] at v8; cases v8)
    rw [v8] at f7 hcv
    obtain ⟨pk, ck, fk, hck⟩ := nv_open sk
    obtain ⟨bk, ok, rfl, hbk, hck⟩ := hck (by intro e; have := congrArg List.length e; rw [kN_length] at this; cases this)
    obtain ⟨pw, cw, fw, hcw⟩ := nv_open sw
    obtain ⟨bw, ow, rfl, hbw, hcw⟩ := hcw (by intro e; have := congrArg List.length e; rw [schL_length] at this; cases this)
    rw [kN_length] at fk hck
    rw [schL_length] at fw hcw
    have f5' := f5.trans fw
    have f6' := f6.trans fk
    have k1 := hck i hlt
    have w1 := hcw i hlt
    rw [hst] at hcv w8
    have n0 : V.hc g ⟨bv, ov, none⟩ = some (.int .i64 (a : Nat)) := hcv 0 (by omega)
    have n1 : V.hc g ⟨bv, ov + 1, none⟩ = some (.int .i64 (b' : Nat)) := hcv 1 (by omega)
    have n2 : V.hc g ⟨bv, ov + 2, none⟩ = some (.int .i64 (c : Nat)) := hcv 2 (by omega)
    have n3 : V.hc g ⟨bv, ov + 3, none⟩ = some (.int .i64 (d' : Nat)) := hcv 3 (by omega)
    have n4 : V.hc g ⟨bv, ov + 4, none⟩ = some (.int .i64 (e : Nat)) := hcv 4 (by omega)
    have n5 : V.hc g ⟨bv, ov + 5, none⟩ = some (.int .i64 (f : Nat)) := hcv 5 (by omega)
    have n6 : V.hc g ⟨bv, ov + 6, none⟩ = some (.int .i64 (g' : Nat)) := hcv 6 (by omega)
    have n7 : V.hc g ⟨bv, ov + 7, none⟩ = some (.int .i64 (k' : Nat)) := hcv 7 (by omega)
    have ha : a < 4294967296 := w8 a (by simp)
    have hb' : b' < 4294967296 := w8 b' (by simp)
    have hc' : c < 4294967296 := w8 c (by simp)
    have hd' : d' < 4294967296 := w8 d' (by simp)
    have he : e < 4294967296 := w8 e (by simp)
    have hf : f < 4294967296 := w8 f (by simp)
    have hg' : g' < 4294967296 := w8 g' (by simp)
    have hk' : k' < 4294967296 := w8 k' (by simp)
    generalize kN.getD i 0 = K at *
    generalize (schL b 64).getD i 0 = W at *
    have lc := chw_lt (f := f) he hg'
    have lb := bg1_lt he
    have lb0 := bg0_lt ha
    have lm := majw_lt (c := c) ha hb'
    have lU : upw e f g' k' K W < 4294967296 := Nat.mod_lt _ (by decide)
    have z1 : e &&& f < 4294967296 := and_lt32 he
    have z2 : (4294967295 - e) &&& g' < 4294967296 := and_lt32 (sub_lt32 e)
    obtain ⟨ya, hya⟩ : ∃ y : Int, y = (a : Int) := ⟨_, rfl⟩
    obtain ⟨yb, hyb⟩ : ∃ y : Int, y = (b' : Int) := ⟨_, rfl⟩
    obtain ⟨yc, hyc⟩ : ∃ y : Int, y = (c : Int) := ⟨_, rfl⟩
    obtain ⟨yd, hyd⟩ : ∃ y : Int, y = (d' : Int) := ⟨_, rfl⟩
    obtain ⟨ye, hye⟩ : ∃ y : Int, y = (e : Int) := ⟨_, rfl⟩
    obtain ⟨yf, hyf⟩ : ∃ y : Int, y = (f : Int) := ⟨_, rfl⟩
    obtain ⟨yg, hyg⟩ : ∃ y : Int, y = (g' : Int) := ⟨_, rfl⟩
    obtain ⟨yk, hyk⟩ : ∃ y : Int, y = (k' : Int) := ⟨_, rfl⟩
    obtain ⟨yK, hyK⟩ : ∃ y : Int, y = (K : Int) := ⟨_, rfl⟩
    obtain ⟨yW, hyW⟩ : ∃ y : Int, y = (W : Int) := ⟨_, rfl⟩
    obtain ⟨r6, hr6⟩ : ∃ y : Int, y = ((rr e 6 : Nat) : Int) := ⟨_, rfl⟩
    obtain ⟨r11, hr11⟩ : ∃ y : Int, y = ((rr e 11 : Nat) : Int) := ⟨_, rfl⟩
    obtain ⟨r25, hr25⟩ : ∃ y : Int, y = ((rr e 25 : Nat) : Int) := ⟨_, rfl⟩
    obtain ⟨p1, hp1⟩ : ∃ y : Int, y = ((rr e 6 ^^^ rr e 11 : Nat) : Int) := ⟨_, rfl⟩
    obtain ⟨s1, hs1⟩ : ∃ y : Int, y = ((bg1 e : Nat) : Int) := ⟨_, rfl⟩
    obtain ⟨r2, hr2⟩ : ∃ y : Int, y = ((rr a 2 : Nat) : Int) := ⟨_, rfl⟩
    obtain ⟨r13, hr13⟩ : ∃ y : Int, y = ((rr a 13 : Nat) : Int) := ⟨_, rfl⟩
    obtain ⟨r22, hr22⟩ : ∃ y : Int, y = ((rr a 22 : Nat) : Int) := ⟨_, rfl⟩
    obtain ⟨p2, hp2⟩ : ∃ y : Int, y = ((rr a 2 ^^^ rr a 13 : Nat) : Int) := ⟨_, rfl⟩
    obtain ⟨s0, hs0⟩ : ∃ y : Int, y = ((bg0 a : Nat) : Int) := ⟨_, rfl⟩
    obtain ⟨xe, hxe⟩ : ∃ y : Int, y = ((4294967295 - e : Nat) : Int) := ⟨_, rfl⟩
    obtain ⟨w1', hw1'⟩ : ∃ y : Int, y = ((e &&& f : Nat) : Int) := ⟨_, rfl⟩
    obtain ⟨w2', hw2'⟩ : ∃ y : Int, y = (((4294967295 - e) &&& g' : Nat) : Int) := ⟨_, rfl⟩
    obtain ⟨ch, hch⟩ : ∃ y : Int, y = ((chw e f g' : Nat) : Int) := ⟨_, rfl⟩
    obtain ⟨m1', hm1'⟩ : ∃ y : Int, y = ((a &&& b' : Nat) : Int) := ⟨_, rfl⟩
    obtain ⟨m2', hm2'⟩ : ∃ y : Int, y = ((a &&& c : Nat) : Int) := ⟨_, rfl⟩
    obtain ⟨m3', hm3'⟩ : ∃ y : Int, y = ((b' &&& c : Nat) : Int) := ⟨_, rfl⟩
    obtain ⟨m4', hm4'⟩ : ∃ y : Int, y = (((a &&& b') ||| (a &&& c) : Nat) : Int) := ⟨_, rfl⟩
    obtain ⟨mj, hmj⟩ : ∃ y : Int, y = ((majw a b' c : Nat) : Int) := ⟨_, rfl⟩
    obtain ⟨yU, hyU⟩ : ∃ y : Int, y = ((upw e f g' k' K W : Nat) : Int) := ⟨_, rfl⟩
    obtain ⟨x1, hx1⟩ : ∃ y : Int, y = ((k' + bg1 e + chw e f g' + K + W : Nat) : Int) := ⟨_, rfl⟩
    obtain ⟨x2, hx2⟩ : ∃ y : Int, y = ((upw e f g' k' K W + bg0 a + majw a b' c : Nat) : Int) := ⟨_, rfl⟩
    obtain ⟨x3, hx3⟩ : ∃ y : Int, y = ((d' + upw e f g' k' K W : Nat) : Int) := ⟨_, rfl⟩
    obtain ⟨y0, hy0⟩ : ∃ y : Int, y = (((upw e f g' k' K W + bg0 a + majw a b' c) % 4294967296 : Nat) : Int) := ⟨_, rfl⟩
    obtain ⟨y4, hy4⟩ : ∃ y : Int, y = (((d' + upw e f g' k' K W) % 4294967296 : Nat) : Int) := ⟨_, rfl⟩
    have u1 : ∀ h, CallsH Tryd.prog T 170 #[.int .i64 ye, .int .i64 6] h fun v' h' => v' = .int .i64 r6 ∧ h' = h := fun h => by rw [hye, hr6]; exact turned_ok T h e 6 he (by decide)
    have u2 : ∀ h, CallsH Tryd.prog T 170 #[.int .i64 ye, .int .i64 11] h fun v' h' => v' = .int .i64 r11 ∧ h' = h := fun h => by rw [hye, hr11]; exact turned_ok T h e 11 he (by decide)
    have u3 : ∀ h, CallsH Tryd.prog T 170 #[.int .i64 ye, .int .i64 25] h fun v' h' => v' = .int .i64 r25 ∧ h' = h := fun h => by rw [hye, hr25]; exact turned_ok T h e 25 he (by decide)
    have u4 : ∀ h, CallsH Tryd.prog T 170 #[.int .i64 ya, .int .i64 2] h fun v' h' => v' = .int .i64 r2 ∧ h' = h := fun h => by rw [hya, hr2]; exact turned_ok T h a 2 ha (by decide)
    have u5 : ∀ h, CallsH Tryd.prog T 170 #[.int .i64 ya, .int .i64 13] h fun v' h' => v' = .int .i64 r13 ∧ h' = h := fun h => by rw [hya, hr13]; exact turned_ok T h a 13 ha (by decide)
    have u6 : ∀ h, CallsH Tryd.prog T 170 #[.int .i64 ya, .int .i64 22] h fun v' h' => v' = .int .i64 r22 ∧ h' = h := fun h => by rw [hya, hr22]; exact turned_ok T h a 22 ha (by decide)
    have q1 : ∀ h, CallsH Tryd.prog T 171 #[.int .i64 x1] h fun v' h' => v' = .int .i64 yU ∧ h' = h := fun h => by rw [hx1, hyU]; exact word32_ok T h _
    have q2 : ∀ h, CallsH Tryd.prog T 171 #[.int .i64 x2] h fun v' h' => v' = .int .i64 y0 ∧ h' = h := fun h => by rw [hx2, hy0]; exact word32_ok T h _
    have q3 : ∀ h, CallsH Tryd.prog T 171 #[.int .i64 x3] h fun v' h' => v' = .int .i64 y4 ∧ h' = h := fun h => by rw [hx3, hy4]; exact word32_ok T h _
    have o1 : Unit → bitOp .xor .i64 r6 r11 = p1 := fun _ => by rw [hr6, hr11, hp1]; exact x64 (rr_lt he) (rr_lt he)
    have o2 : Unit → bitOp .xor .i64 p1 r25 = s1 := fun _ => by rw [hp1, hr25, hs1]; exact x64 (xor_lt32 (rr_lt he) (rr_lt he)) (rr_lt he)
    have o3 : Unit → bitOp .xor .i64 r2 r13 = p2 := fun _ => by rw [hr2, hr13, hp2]; exact x64 (rr_lt ha) (rr_lt ha)
    have o4 : Unit → bitOp .xor .i64 p2 r22 = s0 := fun _ => by rw [hp2, hr22, hs0]; exact x64 (xor_lt32 (rr_lt ha) (rr_lt ha)) (rr_lt ha)
    have c1 : Unit → bitOp .and .i64 ye yf = w1' := fun _ => by rw [hye, hyf, hw1']; exact a64 he hf
    have c2 : Unit → 4294967295 - ye = xe := fun _ => by rw [hye, hxe]; clear hres; omega
    have c3 : Unit → bitOp .and .i64 xe yg = w2' := fun _ => by rw [hxe, hyg, hw2']; exact a64 (sub_lt32 e) hg'
    have c4 : Unit → w1' + w2' = ch := fun _ => by rw [hw1', hw2', hch]; exact (Int.natCast_add _ _).symm
    have m1 : Unit → bitOp .and .i64 ya yb = m1' := fun _ => by rw [hya, hyb, hm1']; exact a64 ha hb'
    have m2 : Unit → bitOp .and .i64 ya yc = m2' := fun _ => by rw [hya, hyc, hm2']; exact a64 ha hc'
    have m3 : Unit → bitOp .and .i64 yb yc = m3' := fun _ => by rw [hyb, hyc, hm3']; exact a64 hb' hc'
    have m4 : Unit → bitOp .or .i64 m1' m2' = m4' := fun _ => by rw [hm1', hm2', hm4']; exact r64 (and_lt32 ha) (and_lt32 ha)
    have m5 : Unit → bitOp .or .i64 m4' m3' = mj := fun _ => by rw [hm4', hm3', hmj]; exact r64 (or_lt32 (and_lt32 ha) (and_lt32 ha)) (and_lt32 hb')
    have e1 : Unit → yk + s1 + ch + yK + yW = x1 := fun _ => by rw [hyk, hs1, hch, hyK, hyW, hx1]; clear hres; omega
    have e2 : Unit → yU + s0 + mj = x2 := fun _ => by rw [hyU, hs0, hmj, hx2]; clear hres; omega
    have e3 : Unit → yd + yU = x3 := fun _ => by rw [hyd, hyU, hx3]; clear hres; omega
    have bb : ((0 ≤ ye ∧ ye < 4294967296) ∧ (0 ≤ yk ∧ yk < 4294967296) ∧ (0 ≤ s1 ∧ s1 < 4294967296) ∧ (0 ≤ ch ∧ ch < 8589934592) ∧ (0 ≤ yK ∧ yK < 4294967296)) ∧ ((0 ≤ yW ∧ yW < 4294967296) ∧ (0 ≤ yU ∧ yU < 4294967296) ∧ (0 ≤ s0 ∧ s0 < 4294967296) ∧ (0 ≤ mj ∧ mj < 4294967296) ∧ (0 ≤ yd ∧ yd < 4294967296)) ∧ ((0 ≤ w1' ∧ w1' < 4294967296) ∧ (0 ≤ w2' ∧ w2' < 4294967296) ∧ 0 ≤ xe ∧ xe < 4294967296) := by
      rw [hye, hyk, hs1, hch, hyK, hyW, hyU, hs0, hmj, hyd, hw1', hw2', hxe]; clear hres; omega
    have bx : (0 ≤ x1 ∧ x1 ≤ 40000000000) ∧ (0 ≤ x2 ∧ x2 ≤ 40000000000) ∧ (0 ≤ x3 ∧ x3 ≤ 40000000000) := by
      rw [hx1, hx2, hx3]; clear hres; omega
    rw [← hya] at n0
    rw [← hyb] at n1
    rw [← hyc] at n2
    rw [← hyd] at n3
    rw [← hye] at n4
    rw [← hyf] at n5
    rw [← hyg] at n6
    rw [← hyk] at n7
    rw [← hyK] at k1
    rw [← hyW] at w1
    clear hyd hyk hyK hyW hr6 hr11 hr25 hp1 hs1 hr2 hr13 hr22 hp2 hs0 hxe hw1' hw2' hch hm1' hm2' hm3' hm4' hmj hyU hx1 hx2 hx3 lc lb lb0 lm lU z1 z2 ha hb' hc' hd' he hf hg' hk' hK hW
    obtain ⟨⟨⟨a1, a2⟩, ⟨a3, a4⟩, ⟨a5, a6⟩, ⟨a7, a8⟩, a9, a10⟩, ⟨⟨a11, a12⟩, ⟨a13, a14⟩, ⟨a15, a16⟩, ⟨a17, a18⟩, a19, a20⟩, ⟨a21, a22⟩, ⟨a23, a24⟩, a25, a26⟩ := bb
    obtain ⟨⟨a27, a28⟩, ⟨a29, a30⟩, a31, a32⟩ := bx
    have hbw2 : bw < g.size := hbw
    simp (config := {maxSteps := 2000000, implicitDefEqProofs := false}) only [go_sem, ↓reduceIte, Nat.reduceEqDiff, Nat.reduceAdd, Nat.reduceMul, Nat.reduceLeDiff, Nat.reduceLT, Nat.reduceSub, IntWalk.iteOmega, IntWalk.toNatUp, reduceCtorEq, Int.reduceLE, Int.reduceLT, Int.reduceToNat, Int.reduceNeg, f7, f8, hlt']
    refine VS.q mixed (by kernel_rfl) ?_
    simp (config := {maxSteps := 2000000, implicitDefEqProofs := false}) only [go_sem, ↓reduceIte, Nat.reduceEqDiff, Nat.reduceAdd, Nat.reduceMul, Nat.reduceLeDiff, Nat.reduceLT, Nat.reduceSub, IntWalk.iteOmega, IntWalk.toNatUp, reduceCtorEq, Int.reduceLE, Int.reduceLT, Int.reduceToNat, Int.reduceNeg, f7, n4]
    refine stillCallQ (u1 _) ?_
    simp (config := {maxSteps := 2000000, implicitDefEqProofs := false}) only [go_sem, ↓reduceIte, Nat.reduceEqDiff, Nat.reduceAdd, Nat.reduceMul, Nat.reduceLeDiff, Nat.reduceLT, Nat.reduceSub, IntWalk.iteOmega, IntWalk.toNatUp, reduceCtorEq, Int.reduceLE, Int.reduceLT, Int.reduceToNat, Int.reduceNeg, f7, n4]
    refine stillCallQ (u2 _) ?_
    simp (config := {maxSteps := 2000000, implicitDefEqProofs := false}) only [go_sem, ↓reduceIte, Nat.reduceEqDiff, Nat.reduceAdd, Nat.reduceMul, Nat.reduceLeDiff, Nat.reduceLT, Nat.reduceSub, IntWalk.iteOmega, IntWalk.toNatUp, reduceCtorEq, Int.reduceLE, Int.reduceLT, Int.reduceToNat, Int.reduceNeg, f7, n4]
    refine stillCallQ (u3 _) ?_
    simp (config := {maxSteps := 2000000, implicitDefEqProofs := false}) only [go_sem, ↓reduceIte, Nat.reduceEqDiff, Nat.reduceAdd, Nat.reduceMul, Nat.reduceLeDiff, Nat.reduceLT, Nat.reduceSub, IntWalk.iteOmega, IntWalk.toNatUp, reduceCtorEq, Int.reduceLE, Int.reduceLT, Int.reduceToNat, Int.reduceNeg, f7, n4, o1 (), o2 ()]
    refine VS.q mixed (by kernel_rfl) ?_
    simp (config := {maxSteps := 2000000, implicitDefEqProofs := false}) only [go_sem, ↓reduceIte, Nat.reduceEqDiff, Nat.reduceAdd, Nat.reduceMul, Nat.reduceLeDiff, Nat.reduceLT, Nat.reduceSub, IntWalk.iteOmega, IntWalk.toNatUp, reduceCtorEq, Int.reduceLE, Int.reduceLT, Int.reduceToNat, Int.reduceNeg, f7, n4, n5, n6, c1 (), c2 (), c3 (), c4 ()]
    refine VS.q mixed (by kernel_rfl) ?_
    simp (config := {maxSteps := 2000000, implicitDefEqProofs := false}) only [go_sem, ↓reduceIte, Nat.reduceEqDiff, Nat.reduceAdd, Nat.reduceMul, Nat.reduceLeDiff, Nat.reduceLT, Nat.reduceSub, IntWalk.iteOmega, IntWalk.toNatUp, reduceCtorEq, Int.reduceLE, Int.reduceLT, Int.reduceToNat, Int.reduceNeg, f5', f6', f7, f8, n7, k1, w1, hlt', e1 ()]
    refine stillCallQ (q1 _) ?_
    simp (config := {maxSteps := 2000000, implicitDefEqProofs := false}) only [go_sem, ↓reduceIte, Nat.reduceEqDiff, Nat.reduceAdd, Nat.reduceMul, Nat.reduceLeDiff, Nat.reduceLT, Nat.reduceSub, IntWalk.iteOmega, IntWalk.toNatUp, reduceCtorEq, Int.reduceLE, Int.reduceLT, Int.reduceToNat, Int.reduceNeg]
    refine VS.q mixed (by kernel_rfl) ?_
    simp (config := {maxSteps := 2000000, implicitDefEqProofs := false}) only [go_sem, ↓reduceIte, Nat.reduceEqDiff, Nat.reduceAdd, Nat.reduceMul, Nat.reduceLeDiff, Nat.reduceLT, Nat.reduceSub, IntWalk.iteOmega, IntWalk.toNatUp, reduceCtorEq, Int.reduceLE, Int.reduceLT, Int.reduceToNat, Int.reduceNeg, f7, n0]
    refine stillCallQ (u4 _) ?_
    simp (config := {maxSteps := 2000000, implicitDefEqProofs := false}) only [go_sem, ↓reduceIte, Nat.reduceEqDiff, Nat.reduceAdd, Nat.reduceMul, Nat.reduceLeDiff, Nat.reduceLT, Nat.reduceSub, IntWalk.iteOmega, IntWalk.toNatUp, reduceCtorEq, Int.reduceLE, Int.reduceLT, Int.reduceToNat, Int.reduceNeg, f7, n0]
    refine stillCallQ (u5 _) ?_
    simp (config := {maxSteps := 2000000, implicitDefEqProofs := false}) only [go_sem, ↓reduceIte, Nat.reduceEqDiff, Nat.reduceAdd, Nat.reduceMul, Nat.reduceLeDiff, Nat.reduceLT, Nat.reduceSub, IntWalk.iteOmega, IntWalk.toNatUp, reduceCtorEq, Int.reduceLE, Int.reduceLT, Int.reduceToNat, Int.reduceNeg, f7, n0]
    refine stillCallQ (u6 _) ?_
    simp (config := {maxSteps := 2000000, implicitDefEqProofs := false}) only [go_sem, ↓reduceIte, Nat.reduceEqDiff, Nat.reduceAdd, Nat.reduceMul, Nat.reduceLeDiff, Nat.reduceLT, Nat.reduceSub, IntWalk.iteOmega, IntWalk.toNatUp, reduceCtorEq, Int.reduceLE, Int.reduceLT, Int.reduceToNat, Int.reduceNeg, f7, n0, o3 (), o4 ()]
    refine VS.q mixed (by kernel_rfl) ?_
    simp (config := {maxSteps := 2000000, implicitDefEqProofs := false}) only [go_sem, ↓reduceIte, Nat.reduceEqDiff, Nat.reduceAdd, Nat.reduceMul, Nat.reduceLeDiff, Nat.reduceLT, Nat.reduceSub, IntWalk.iteOmega, IntWalk.toNatUp, reduceCtorEq, Int.reduceLE, Int.reduceLT, Int.reduceToNat, Int.reduceNeg, f7, n0, n1, n2, m1 (), m2 (), m3 (), m4 (), m5 ()]
    refine VS.w (g.size) [] (.q 0 (.q 1 (.q 2 (.q 3 (.q 4 (.q 5 (.q 6 (.q 7 (.q 8 (.q 9 (.q 10 (.q 11 (.q 12 (.q 13 (.q 14 (.q 15 (.q 16 (.q 17 (.q 18 (.q 19 (.q 20 (.q 21 (.q 22 (.q 23 (.q 24 (.q 25 (.q 26 (.q 27 (.q 28 (.q 29 (.s 30 (.q 31 .nil)))))))))))))))))))))))))))))))) mixed (by kernel_rfl) ?_
    simp (config := {maxSteps := 2000000, implicitDefEqProofs := false}) only [go_sem, ↓reduceIte, Nat.reduceEqDiff, Nat.reduceAdd, Nat.reduceMul, Nat.reduceLeDiff, Nat.reduceLT, Nat.reduceSub, IntWalk.iteOmega, IntWalk.toNatUp, reduceCtorEq, Int.reduceLE, Int.reduceLT, Int.reduceToNat, Int.reduceNeg, f7, n0, n1, n2, n3, n4, n5, n6, e2 (), e3 (), hbv]
    refine stillCall q2 ?_
    simp (config := {maxSteps := 2000000, implicitDefEqProofs := false}) only [go_sem, ↓reduceIte, Nat.reduceEqDiff, Nat.reduceAdd, Nat.reduceMul, Nat.reduceLeDiff, Nat.reduceLT, Nat.reduceSub, IntWalk.iteOmega, IntWalk.toNatUp, reduceCtorEq, Int.reduceLE, Int.reduceLT, Int.reduceToNat, Int.reduceNeg, f7, n0, n1, n2, n3, n4, n5, n6, e2 (), e3 (), hbv]
    refine stillCall q3 ?_
    simp (config := {maxSteps := 2000000, implicitDefEqProofs := false}) only [go_sem, ↓reduceIte, Nat.reduceEqDiff, Nat.reduceAdd, Nat.reduceMul, Nat.reduceLeDiff, Nat.reduceLT, Nat.reduceSub, IntWalk.iteOmega, IntWalk.toNatUp, reduceCtorEq, Int.reduceLE, Int.reduceLT, Int.reduceToNat, Int.reduceNeg, f0, f5, f6, f7, f8, n0, n1, n2, n3, n4, n5, n6, e2 (), e3 (), hbv]
    obtain ⟨X0, hX0⟩ : ∃ X, X = (upw e f g' k' K W + bg0 a + majw a b' c) % 4294967296 := ⟨_, rfl⟩
    obtain ⟨X4, hX4⟩ : ∃ X, X = (d' + upw e f g' k' K W) % 4294967296 := ⟨_, rfl⟩
    rw [← hX0] at hy0 hres
    rw [← hX4] at hy4 hres
    clear hX0 hX4
    subst hya hyb hyc hye hyf hyg hy0 hy4
    have bN : Bel g.size g (g.push (.cells (([X0, a, b', c, X4, e, f, g'] : List Nat).map nv).toArray 3)) := Bel.push (Nat.le_refl _) _
    have hnew : NT (g.push (.cells (([X0, a, b', c, X4, e, f, g'] : List Nat).map nv).toArray 3)) (.slice (some ⟨g.size, 0, none⟩) 8 8) [X0, a, b', c, X4, e, f, g'] := by
      constructor
      rw [encs_one nv]
      exact Sl.made (by simp) 8
    refine ⟨⟨hg.trans (bN.mono hg.size), f0, f5, f6, sw.bel bN, sk.bel bN, i + 1, hlt, rfl, ?_⟩, ?_⟩
    · rw [hres]; exact hnew
    · simp only [vi, updo_some, ↓reduceIte, f8]; omega
  · have hge : ¬ (i : Int) < 64 := by omega
    obtain rfl : i = 64 := by omega
    simp (config := {maxSteps := 2000000, implicitDefEqProofs := false}) only [go_sem, ↓reduceIte, Nat.reduceEqDiff, Nat.reduceAdd, Nat.reduceMul, Nat.reduceLeDiff, Nat.reduceLT, Nat.reduceSub, IntWalk.iteOmega, IntWalk.toNatUp, reduceCtorEq, Int.reduceLE, Int.reduceLT, Int.reduceToNat, Int.reduceNeg, f0, f8, hge]
    obtain ⟨v64, hv64⟩ : ∃ v64, v64 = F 7 := ⟨_, rfl⟩
    rw [← hv64] at sv
    refine VS.loop' (fun F' g' => Bel g.size g g' ∧ F' 0 = u ∧ F' 7 = v64 ∧ ∃ i : Nat, i ≤ 8 ∧ F' 15 = .int .i64 i ∧ NO g.size g' (F' 14) ((compW d b).take i))
      (fun F _ => 8 - (vi (F 15)).toNat) rfl ⟨Bel.refl _ _, f0, hv64.symm, 0, by omega, rfl, Ots.nil _ _ _ _ _⟩ ?_
    clear f0 f5 f6 f8 hge hi hlt sw sk hv64 F
    rintro F g2 ⟨hg2, f0, f7, i, hi, f15, ho⟩
    have hcl := (compW_ok (b := b) hd wd).1
    by_cases hlt : i < 8
    · have hlt' : (i : Int) < 8 := by omega
      have su' := (su.bel hg).bel hg2
      have sv' := sv.bel hg2
      obtain ⟨pu, cu, fu, hcu⟩ := nv_open su'
      obtain ⟨bu, ou, rfl, hbu, hcu⟩ := hcu (by intro e; rw [e] at hd; cases hd)
      obtain ⟨pv, cv, fv, hcv⟩ := nv_open sv'
      obtain ⟨bv, ov, rfl, hbv, hcv⟩ := hcv (by intro e; rw [e] at v8; cases v8)
      rw [hd] at fu hcu
      rw [v8] at fv hcv
      have f0' := f0.trans fu
      have f7' := f7.trans fv
      have u1 := hcu i hlt
      have v1 := hcv i hlt
      have eX := addW_getD hd v8 hlt
      have hU := wd.getD i
      have hV := w8.getD i
      have et : (compW d b).take (i + 1) = (compW d b).take i ++ [(compW d b).getD i 0] := by
        rw [take_snoc _ i (by omega), List.getD_eq_getElem?_getD, List.getElem?_eq_getElem (by omega)]; rfl
      have eY : (compW d b).getD i 0 = (d.getD i 0 + (srnds b d 64).getD i 0) % 4294967296 := eX
      rw [eY] at et
      generalize d.getD i 0 = D at *
      generalize (srnds b d 64).getD i 0 = V at *
      obtain ⟨X, hX⟩ : ∃ X, X = (D + V) % 4294967296 := ⟨_, rfl⟩
      obtain ⟨xS, hxS⟩ : ∃ x : Int, x = ((D + V : Nat) : Int) := ⟨_, rfl⟩
      have e1 : Unit → (D : Int) + (V : Int) = xS := fun _ => by rw [hxS]; clear et eX eY hX; omega
      have w32 : ∀ h, CallsH Tryd.prog T 171 #[.int .i64 xS] h fun v' h' => v' = .int .i64 (X : Nat) ∧ h' = h := fun h => by rw [hxS, hX]; exact word32_ok T h _
      have xSb : 0 ≤ xS ∧ xS ≤ 30000000000 := by rw [hxS]; clear et eX eY hX; omega
      rw [← hX] at et
      clear hX hxS eX eY
      simp (config := {maxSteps := 2000000, implicitDefEqProofs := false}) only [go_sem, ↓reduceIte, Nat.reduceEqDiff, Nat.reduceAdd, Nat.reduceMul, Nat.reduceLeDiff, Nat.reduceLT, Nat.reduceSub, IntWalk.iteOmega, IntWalk.toNatUp, reduceCtorEq, Int.reduceLE, Int.reduceLT, Int.reduceToNat, Int.reduceNeg, f0', f7', f15, hlt']
      refine VS.w (g2.size) [12, 13] (.q 0 (.q 1 (.q 2 (.q 3 (.q 4 (.q 5 (.q 6 (.q 7 (.q 8 (.q 9 (.q 10 (.s 11 (.w 12 (.w 13 .nil)))))))))))))) mixed (by kernel_rfl) ?_
      simp (config := {maxSteps := 2000000, implicitDefEqProofs := false}) only [go_sem, ↓reduceIte, Nat.reduceEqDiff, Nat.reduceAdd, Nat.reduceMul, Nat.reduceLeDiff, Nat.reduceLT, Nat.reduceSub, IntWalk.iteOmega, IntWalk.toNatUp, reduceCtorEq, Int.reduceLE, Int.reduceLT, Int.reduceToNat, Int.reduceNeg, f0', f7', f15, hlt', u1, v1, hbu, hbv, e1 ()]
      refine stillCall w32 ?_
      simp (config := {maxSteps := 2000000, implicitDefEqProofs := false}) only [go_sem, ↓reduceIte, Nat.reduceEqDiff, Nat.reduceAdd, Nat.reduceMul, Nat.reduceLeDiff, Nat.reduceLT, Nat.reduceSub, IntWalk.iteOmega, IntWalk.toNatUp, reduceCtorEq, Int.reduceLE, Int.reduceLT, Int.reduceToNat, Int.reduceNeg, f0', f7', f15]
      refine append_ts (E := 3) (B := g.size) (n := 1) (bytes := 8) tsl155 Tryd.underlying155 tn3 tz3 rfl tb3 (fun _ => rfl) (ho.push _) (by have := hg2.size; simp; omega) (Ts.one (enc := fun x => [nv x]) X (fun _ => rfl) 1) ?_ (by omega) ?_
      · simp only [List.length_take, List.length_singleton]; omega
      intro v' h' ho' hb' _
      simp (config := {maxSteps := 2000000, implicitDefEqProofs := false}) only [go_sem, ↓reduceIte, Nat.reduceEqDiff, Nat.reduceAdd, Nat.reduceMul, Nat.reduceLeDiff, Nat.reduceLT, Nat.reduceSub, IntWalk.iteOmega, IntWalk.toNatUp, reduceCtorEq, Int.reduceLE, Int.reduceLT, Int.reduceToNat, Int.reduceNeg, f15]
      refine ⟨⟨(hg2.addP hg2.size _).trans hb', f0, f7, i + 1, hlt, rfl, ?_⟩, ?_⟩
      · rw [et]; exact ho'
      · simp only [vi, updo_some, ↓reduceIte, f15]; omega
    · have hge : ¬ (i : Int) < 8 := by omega
      obtain rfl : i = 8 := by omega
      rw [List.take_of_length_le (by omega)] at ho
      simp (config := {maxSteps := 2000000, implicitDefEqProofs := false}) only [go_sem, ↓reduceIte, Nat.reduceEqDiff, Nat.reduceAdd, Nat.reduceMul, Nat.reduceLeDiff, Nat.reduceLT, Nat.reduceSub, IntWalk.iteOmega, IntWalk.toNatUp, reduceCtorEq, Int.reduceLE, Int.reduceLT, Int.reduceToNat, Int.reduceNeg, f15, hge]
      exact ⟨ho.mono hg.size, hg.trans (hg2.mono hg.size)⟩
end Go.Proofs.YtnpacofabdgcdaaDoor
