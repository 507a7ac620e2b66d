/- The ladder of curve.times: what the program computes; no condition but those in the statements. -/
import Derived.Test.YtiakfdpmapmifaaFldh
namespace Go.Proofs.Ytiakfdpmapmifaa
open Go Go.V
set_option linter.unusedSimpArgs false
set_option linter.unusedVariables false
set_option maxRecDepth 100000
set_option maxHeartbeats 8000000 in
theorem timesC_ok (T : World) (h : Hp) (u v : Value) (kl pl : List Nat) (s : Bs h u kl) (sp : Bs h v pl) (hk : kl.length = 32) (hp : pl.length = 32) :
    CallsH Try.prog T 23 #[u, v] h fun v' h' => OBs h.size 5 h' v' (curveF kl pl) ∧ Bel h.size h h' := by
  obtain ⟨kp, kc, rfl, hkc⟩ := s.opend
  obtain ⟨pp, pc, rfl, hpc⟩ := sp.opend
  refine CallsH.of_code2 (args := [_, _]) Try.func23 rfl rfl rfl rfl ?_
  simp (config := {maxSteps := 2000000, implicitDefEqProofs := false}) only [go_sem, ↓reduceIte, Nat.reduceEqDiff, Nat.reduceAdd, Nat.reduceMul, Nat.reduceLeDiff, Nat.reduceLT, Nat.reduceSub, IntWalk.iteOmega, IntWalk.toNatUp, reduceCtorEq, false_and, and_false, false_or, or_false, true_or, or_true, not_true_eq_false, not_false_eq_true, Bool.not_true, Bool.not_false, Bool.and_true, Bool.true_and, Bool.and_false, Bool.false_and, Bool.not_eq_true, beq_self_eq_true, Nat.add_zero, Int.reduceLE, Int.reduceLT, Int.reduceToNat, Int.reduceNeg]
  refine append_bytes (E := 5) (B := h.size) tsl30 Try.underlying30 tn5 tz5 tb5 (OBs.nil _ _ _) (Nat.le_refl _) s (by simp [hk]) ?_
  intro v1 g1 ho b1 _
  rw [List.nil_append] at ho
  obtain ⟨p1, c1, rfl, hle⟩ := ho.open
  obtain ⟨bk, spare, hbk, hpe, hg, hlen, hsp⟩ := ho.own.spare (by omega)
  cases hpe
  have w0 := getD_byte s.byte 0
  have w31 := getD_byte s.byte 31
  have y0 : V.hc g1 ⟨bk, 0, none⟩ = some (.int .u8 (kl.getD 0 0 : Nat)) := cells_get (f := bv) hg (by omega)
  have c0 : wr1 g1 ⟨bk, 0, none⟩ (.int .u8 (kl.getD 0 0 / 8 * 8 : Nat)) = _ := cells_set (f := bv) hg (i := 0) (by omega) (kl.getD 0 0 / 8 * 8) rfl
  obtain ⟨g2, hg2⟩ : ∃ g2, g2 = g1.setIfInBounds bk (.cells ((kl.set 0 (kl.getD 0 0 / 8 * 8)).map bv ++ spare).toArray 5) := ⟨_, rfl⟩
  rw [← hg2] at c0
  have x2 : g2[bk]? = some (.cells ((kl.set 0 (kl.getD 0 0 / 8 * 8)).map bv ++ spare).toArray 5) := by rw [hg2]; exact get_set hg
  have b2 : Bel h.size h g2 := by rw [hg2]; exact b1.addSet hbk _
  have y31 : V.hc g2 ⟨bk, 31, none⟩ = some (.int .u8 (kl.getD 31 0 : Nat)) := by
    have := cells_get (f := bv) x2 (i := 31) (by simp [hk])
    rw [this, List.getD_eq_getElem?_getD, List.getElem?_set_ne (by decide), ← List.getD_eq_getElem?_getD]; rfl
  have c31 : wr1 g2 ⟨bk, 31, none⟩ (.int .u8 (64 + kl.getD 31 0 % 64 : Nat)) = _ := cells_set (f := bv) x2 (i := 31) (by simp [hk]) (64 + kl.getD 31 0 % 64) rfl
  obtain ⟨g3, hg3⟩ : ∃ g3, g3 = g2.setIfInBounds bk (.cells ((clampK kl).map bv ++ spare).toArray 5) := ⟨_, rfl⟩
  have c31 : wr1 g2 ⟨bk, 31, none⟩ (.int .u8 (64 + kl.getD 31 0 % 64 : Nat)) = some g3 := by rw [c31, hg3]; rfl
  have x3 : g3[bk]? = some (.cells ((clampK kl).map bv ++ spare).toArray 5) := by rw [hg3]; exact get_set x2
  have b3 : Bel h.size h g3 := by rw [hg3]; exact b2.addSet hbk _
  have lk : (clampK kl).length = 32 := by unfold clampK; simp [hk]
  have wk : ∀ x ∈ clampK kl, x < 256 := by
    intro x hx
    unfold clampK at hx
    rcases List.mem_or_eq_of_mem_set hx with hx | rfl
    · rcases List.mem_or_eq_of_mem_set hx with hx | rfl
      · exact s.byte x hx
      · omega
    · omega
  have e0 := and248 _ w0
  have e1 := and127 _ w31
  have e2 := or64 _ w31
  rw [hk]
  clear hg2 hg3
  simp (config := {maxSteps := 2000000, implicitDefEqProofs := false}) only [go_sem, ↓reduceIte, Nat.reduceEqDiff, Nat.reduceAdd, Nat.reduceMul, Nat.reduceLeDiff, Nat.reduceLT, Nat.reduceSub, IntWalk.iteOmega, IntWalk.toNatUp, reduceCtorEq, false_and, and_false, false_or, or_false, true_or, or_true, not_true_eq_false, not_false_eq_true, Bool.not_true, Bool.not_false, Bool.and_true, Bool.true_and, Bool.and_false, Bool.false_and, Bool.not_eq_true, beq_self_eq_true, Nat.add_zero, Int.reduceLE, Int.reduceLT, Int.reduceToNat, Int.reduceNeg, y0, c0, y31, c31, e0, e1, e2, hk]
  refine (fldRead_ok T g3 _ pl (sp.bel b3) hp).use ?_
  rintro _ g4 ⟨rfl, b4⟩
  have x4 := b4.get (lt_of_get x3) x3
  have B4 := b3.trans (b4.mono b3.size)
  obtain ⟨uu, huu⟩ : ∃ uu, uu = fread pl := ⟨_, rfl⟩
  have lu : uu.length = 16 := by rw [huu]; exact fread_length pl
  have wu : InK 65574 uu := by rw [huu]; exact ((fread_near sp.byte).inK (by omega)).mono (by omega)
  have luu : uu.length = 16 := lu
  have wuu : InK 65574 uu := wu
  have tu : (uu.map sv).take 16 = uu.map sv := List.take_of_length_le (by simp [lu])
  have lvu : (uu.map sv).length = 16 := by simp [lu]
  rw [← huu]
  obtain ⟨g5, hg5⟩ : ∃ g5 : Hp, g5 = g4.push (fldC uu) := ⟨_, rfl⟩
  have eg5 : g4.push (.cells (uu.map sv).toArray 65) = g5 := hg5.symm
  have b5 : Bel g4.size g4 g5 := by rw [hg5]; exact Bel.push (Nat.le_refl _) _
  have z5 : g5.size = g4.size + 1 := by rw [hg5]; simp
  have xU : g5[g4.size]? = some (fldC uu) := by rw [hg5]; exact get_push_last
  have x5 := b5.get (lt_of_get x4) x4
  have B5 := B4.trans (b5.mono B4.size)
  clear hg5
  obtain ⟨U, hU⟩ : ∃ U, U = g4.size := ⟨_, rfl⟩
  have rU := rd_fld lu xU
  rw [← hU] at xU rU
  have hone : (uu.map sv).all oneC = true := by simp [sv, oneC]
  have hlp : lput [Value.int .i64 0, .int .i64 0, .int .i64 0, .int .i64 0, .int .i64 0, .int .i64 0, .int .i64 0, .int .i64 0, .int .i64 0, .int .i64 0, .int .i64 0, .int .i64 0, .int .i64 0, .int .i64 0, .int .i64 0, .int .i64 0] 0 (uu.map sv) = uu.map sv := lput_full (by simp [lu])
  simp (config := {maxSteps := 2000000, implicitDefEqProofs := false}) only [go_sem, ↓reduceIte, Nat.reduceEqDiff, Nat.reduceAdd, Nat.reduceMul, Nat.reduceLeDiff, Nat.reduceLT, Nat.reduceSub, IntWalk.iteOmega, IntWalk.toNatUp, reduceCtorEq, false_and, and_false, false_or, or_false, true_or, or_true, not_true_eq_false, not_false_eq_true, Bool.not_true, Bool.not_false, Bool.and_true, Bool.true_and, Bool.and_false, Bool.false_and, Bool.not_eq_true, beq_self_eq_true, Nat.add_zero, Int.reduceLE, Int.reduceLT, Int.reduceToNat, Int.reduceNeg, eg5, lvu, tu, hU.symm, hone, hlp]
  have one_v : one16.map sv = [.int .i64 1, .int .i64 0, .int .i64 0, .int .i64 0, .int .i64 0, .int .i64 0, .int .i64 0, .int .i64 0, .int .i64 0, .int .i64 0, .int .i64 0, .int .i64 0, .int .i64 0, .int .i64 0, .int .i64 0, .int .i64 0] := rfl
  have zer_v : zer16.map sv = [.int .i64 0, .int .i64 0, .int .i64 0, .int .i64 0, .int .i64 0, .int .i64 0, .int .i64 0, .int .i64 0, .int .i64 0, .int .i64 0, .int .i64 0, .int .i64 0, .int .i64 0, .int .i64 0, .int .i64 0, .int .i64 0] := rfl
  obtain ⟨F5, hF5⟩ : ∃ F5 : Env, F5 = fun t => if t = 5 then .slice (some ⟨bk, 0, none⟩) 32 c1 else if t = 6 then .pointer (some ⟨U, 0, none⟩) else undef := ⟨_, rfl⟩
  refine VS.mono (N := fun F g => (F 5 = .slice (some ⟨bk, 0, none⟩) 32 c1 ∧ F 6 = .pointer (some ⟨U, 0, none⟩)) ∧ RegI g5 one16 zer16 uu one16 F F g) ?_ ?_ (fun _ _ _ h => h) (fun _ _ h => h)
  · refine VS.w (g5.size) [11] (.q 0 (.q 1 (.q 2 (.q 3 (.or 4 (.or 5 (.or 6 (.s 7 (.s 8 (.s 9 (.s 10 (.w 11 .nil))))) (.s 7 (.s 6 (.s 8 (.s 9 (.s 10 (.w 11 .nil))))))) (.or 6 (.or 5 (.s 7 (.s 8 (.s 9 (.s 10 (.w 11 .nil))))) (.s 7 (.s 5 (.s 8 (.s 9 (.s 10 (.w 11 .nil))))))) (.s 7 (.or 5 (.s 6 (.s 8 (.s 9 (.s 10 (.w 11 .nil))))) (.s 6 (.s 5 (.s 8 (.s 9 (.s 10 (.w 11 .nil)))))))))) (.or 5 (.or 4 (.or 6 (.s 7 (.s 8 (.s 9 (.s 10 (.w 11 .nil))))) (.s 7 (.s 6 (.s 8 (.s 9 (.s 10 (.w 11 .nil))))))) (.or 6 (.or 4 (.s 7 (.s 8 (.s 9 (.s 10 (.w 11 .nil))))) (.s 7 (.s 4 (.s 8 (.s 9 (.s 10 (.w 11 .nil))))))) (.s 7 (.or 4 (.s 6 (.s 8 (.s 9 (.s 10 (.w 11 .nil))))) (.s 6 (.s 4 (.s 8 (.s 9 (.s 10 (.w 11 .nil)))))))))) (.or 6 (.or 4 (.or 5 (.s 7 (.s 8 (.s 9 (.s 10 (.w 11 .nil))))) (.s 7 (.s 5 (.s 8 (.s 9 (.s 10 (.w 11 .nil))))))) (.or 5 (.or 4 (.s 7 (.s 8 (.s 9 (.s 10 (.w 11 .nil))))) (.s 7 (.s 4 (.s 8 (.s 9 (.s 10 (.w 11 .nil))))))) (.s 7 (.or 4 (.s 5 (.s 8 (.s 9 (.s 10 (.w 11 .nil))))) (.s 5 (.s 4 (.s 8 (.s 9 (.s 10 (.w 11 .nil)))))))))) (.s 7 (.or 4 (.or 5 (.s 6 (.s 8 (.s 9 (.s 10 (.w 11 .nil))))) (.s 6 (.s 5 (.s 8 (.s 9 (.s 10 (.w 11 .nil))))))) (.or 5 (.or 4 (.s 6 (.s 8 (.s 9 (.s 10 (.w 11 .nil))))) (.s 6 (.s 4 (.s 8 (.s 9 (.s 10 (.w 11 .nil))))))) (.s 6 (.or 4 (.s 5 (.s 8 (.s 9 (.s 10 (.w 11 .nil))))) (.s 5 (.s 4 (.s 8 (.s 9 (.s 10 (.w 11 .nil)))))))))))))))))) mixed (by kernel_rfl) ?_
    obtain ⟨k5_1, ek5_1, bk5_1, zk5_1, xk5_1, Bk5_1⟩ := alloc_step (Bel.refl g5.size g5)
    obtain ⟨k5_2, ek5_2, bk5_2, zk5_2, xk5_2, Bk5_2⟩ := alloc_step Bk5_1
    have xk5_1k5_2 := bk5_2.get (lt_of_get xk5_1) xk5_1
    obtain ⟨k5_3, ek5_3, bk5_3, zk5_3, xk5_3, Bk5_3⟩ := alloc_step Bk5_2
    have xk5_1k5_2k5_3 := bk5_3.get (lt_of_get xk5_1k5_2) xk5_1k5_2
    have xk5_2k5_3 := bk5_3.get (lt_of_get xk5_2) xk5_2
    obtain ⟨k5_4, ek5_4, bk5_4, zk5_4, xk5_4, Bk5_4⟩ := alloc_step Bk5_3
    have xk5_1k5_2k5_3k5_4 := bk5_4.get (lt_of_get xk5_1k5_2k5_3) xk5_1k5_2k5_3
    have xk5_2k5_3k5_4 := bk5_4.get (lt_of_get xk5_2k5_3) xk5_2k5_3
    have xk5_3k5_4 := bk5_4.get (lt_of_get xk5_3) xk5_3
    have qk5_5 : g5.size ≤ k5_3.size := by first | omega | (have := Bk5_4.size; omega)
    obtain ⟨k5_5, wk5_5, xk5_5, lk5_5, Bk5_5, ok5_5⟩ := store_step (l := one16) Bk5_4 xk5_4 qk5_5 rfl
    rw [one_v] at wk5_5
    have xk5_1k5_2k5_3k5_4k5_5 := ok5_5 (g5.size) _ (by omega) xk5_1k5_2k5_3k5_4
    have xk5_2k5_3k5_4k5_5 := ok5_5 (k5_1.size) _ (by omega) xk5_2k5_3k5_4
    have xk5_3k5_4k5_5 := ok5_5 (k5_2.size) _ (by omega) xk5_3k5_4
    have qk5_6 : g5.size ≤ k5_2.size := by first | omega | (have := Bk5_5.size; omega)
    obtain ⟨k5_6, wk5_6, xk5_6, lk5_6, Bk5_6, ok5_6⟩ := store_step (l := zer16) Bk5_5 xk5_3k5_4k5_5 qk5_6 rfl
    rw [zer_v] at wk5_6
    have xk5_1k5_2k5_3k5_4k5_5k5_6 := ok5_6 (g5.size) _ (by omega) xk5_1k5_2k5_3k5_4k5_5
    have xk5_2k5_3k5_4k5_5k5_6 := ok5_6 (k5_1.size) _ (by omega) xk5_2k5_3k5_4k5_5
    have xk5_5k5_6 := ok5_6 (k5_3.size) _ (by omega) xk5_5
    have qk5_7 : g5.size ≤ k5_1.size := by first | omega | (have := Bk5_6.size; omega)
    obtain ⟨k5_7, wk5_7, xk5_7, lk5_7, Bk5_7, ok5_7⟩ := store_step (l := uu) Bk5_6 xk5_2k5_3k5_4k5_5k5_6 qk5_7 lu
    have xk5_1k5_2k5_3k5_4k5_5k5_6k5_7 := ok5_7 (g5.size) _ (by omega) xk5_1k5_2k5_3k5_4k5_5k5_6
    have xk5_5k5_6k5_7 := ok5_7 (k5_3.size) _ (by omega) xk5_5k5_6
    have xk5_6k5_7 := ok5_7 (k5_2.size) _ (by omega) xk5_6
    have qk5_8 : g5.size ≤ g5.size := by first | omega | (have := Bk5_7.size; omega)
    obtain ⟨k5_8, wk5_8, xk5_8, lk5_8, Bk5_8, ok5_8⟩ := store_step (l := one16) Bk5_7 xk5_1k5_2k5_3k5_4k5_5k5_6k5_7 qk5_8 rfl
    rw [one_v] at wk5_8
    have xk5_5k5_6k5_7k5_8 := ok5_8 (k5_3.size) _ (by omega) xk5_5k5_6k5_7
    have xk5_6k5_7k5_8 := ok5_8 (k5_2.size) _ (by omega) xk5_6k5_7
    have xk5_7k5_8 := ok5_8 (k5_1.size) _ (by omega) xk5_7
    have qk5_9 : g5.size ≤ k5_2.size := by first | omega | (have := Bk5_4.size; omega)
    obtain ⟨k5_9, wk5_9, xk5_9, lk5_9, Bk5_9, ok5_9⟩ := store_step (l := one16) Bk5_4 xk5_3k5_4 qk5_9 rfl
    rw [one_v] at wk5_9
    have xk5_1k5_2k5_3k5_4k5_9 := ok5_9 (g5.size) _ (by omega) xk5_1k5_2k5_3k5_4
    have xk5_2k5_3k5_4k5_9 := ok5_9 (k5_1.size) _ (by omega) xk5_2k5_3k5_4
    have xk5_4k5_9 := ok5_9 (k5_3.size) _ (by omega) xk5_4
    have qk5_10 : g5.size ≤ k5_3.size := by first | omega | (have := Bk5_9.size; omega)
    obtain ⟨k5_10, wk5_10, xk5_10, lk5_10, Bk5_10, ok5_10⟩ := store_step (l := zer16) Bk5_9 xk5_4k5_9 qk5_10 rfl
    rw [zer_v] at wk5_10
    have xk5_1k5_2k5_3k5_4k5_9k5_10 := ok5_10 (g5.size) _ (by omega) xk5_1k5_2k5_3k5_4k5_9
    have xk5_2k5_3k5_4k5_9k5_10 := ok5_10 (k5_1.size) _ (by omega) xk5_2k5_3k5_4k5_9
    have xk5_9k5_10 := ok5_10 (k5_2.size) _ (by omega) xk5_9
    have qk5_11 : g5.size ≤ k5_1.size := by first | omega | (have := Bk5_10.size; omega)
    obtain ⟨k5_11, wk5_11, xk5_11, lk5_11, Bk5_11, ok5_11⟩ := store_step (l := uu) Bk5_10 xk5_2k5_3k5_4k5_9k5_10 qk5_11 lu
    have xk5_1k5_2k5_3k5_4k5_9k5_10k5_11 := ok5_11 (g5.size) _ (by omega) xk5_1k5_2k5_3k5_4k5_9k5_10
    have xk5_9k5_10k5_11 := ok5_11 (k5_2.size) _ (by omega) xk5_9k5_10
    have xk5_10k5_11 := ok5_11 (k5_3.size) _ (by omega) xk5_10
    have qk5_12 : g5.size ≤ g5.size := by first | omega | (have := Bk5_11.size; omega)
    obtain ⟨k5_12, wk5_12, xk5_12, lk5_12, Bk5_12, ok5_12⟩ := store_step (l := one16) Bk5_11 xk5_1k5_2k5_3k5_4k5_9k5_10k5_11 qk5_12 rfl
    rw [one_v] at wk5_12
    have xk5_9k5_10k5_11k5_12 := ok5_12 (k5_2.size) _ (by omega) xk5_9k5_10k5_11
    have xk5_10k5_11k5_12 := ok5_12 (k5_3.size) _ (by omega) xk5_10k5_11
    have xk5_11k5_12 := ok5_12 (k5_1.size) _ (by omega) xk5_11
    have qk5_13 : g5.size ≤ k5_1.size := by first | omega | (have := Bk5_5.size; omega)
    obtain ⟨k5_13, wk5_13, xk5_13, lk5_13, Bk5_13, ok5_13⟩ := store_step (l := zer16) Bk5_5 xk5_2k5_3k5_4k5_5 qk5_13 rfl
    rw [zer_v] at wk5_13
    have xk5_1k5_2k5_3k5_4k5_5k5_13 := ok5_13 (g5.size) _ (by omega) xk5_1k5_2k5_3k5_4k5_5
    have xk5_3k5_4k5_5k5_13 := ok5_13 (k5_2.size) _ (by omega) xk5_3k5_4k5_5
    have xk5_5k5_13 := ok5_13 (k5_3.size) _ (by omega) xk5_5
    have qk5_14 : g5.size ≤ k5_2.size := by first | omega | (have := Bk5_13.size; omega)
    obtain ⟨k5_14, wk5_14, xk5_14, lk5_14, Bk5_14, ok5_14⟩ := store_step (l := uu) Bk5_13 xk5_3k5_4k5_5k5_13 qk5_14 lu
    have xk5_1k5_2k5_3k5_4k5_5k5_13k5_14 := ok5_14 (g5.size) _ (by omega) xk5_1k5_2k5_3k5_4k5_5k5_13
    have xk5_5k5_13k5_14 := ok5_14 (k5_3.size) _ (by omega) xk5_5k5_13
    have xk5_13k5_14 := ok5_14 (k5_1.size) _ (by omega) xk5_13
    have qk5_15 : g5.size ≤ g5.size := by first | omega | (have := Bk5_14.size; omega)
    obtain ⟨k5_15, wk5_15, xk5_15, lk5_15, Bk5_15, ok5_15⟩ := store_step (l := one16) Bk5_14 xk5_1k5_2k5_3k5_4k5_5k5_13k5_14 qk5_15 rfl
    rw [one_v] at wk5_15
    have xk5_5k5_13k5_14k5_15 := ok5_15 (k5_3.size) _ (by omega) xk5_5k5_13k5_14
    have xk5_13k5_14k5_15 := ok5_15 (k5_1.size) _ (by omega) xk5_13k5_14
    have xk5_14k5_15 := ok5_15 (k5_2.size) _ (by omega) xk5_14
    have qk5_16 : g5.size ≤ k5_1.size := by first | omega | (have := Bk5_9.size; omega)
    obtain ⟨k5_16, wk5_16, xk5_16, lk5_16, Bk5_16, ok5_16⟩ := store_step (l := zer16) Bk5_9 xk5_2k5_3k5_4k5_9 qk5_16 rfl
    rw [zer_v] at wk5_16
    have xk5_1k5_2k5_3k5_4k5_9k5_16 := ok5_16 (g5.size) _ (by omega) xk5_1k5_2k5_3k5_4k5_9
    have xk5_4k5_9k5_16 := ok5_16 (k5_3.size) _ (by omega) xk5_4k5_9
    have xk5_9k5_16 := ok5_16 (k5_2.size) _ (by omega) xk5_9
    have qk5_17 : g5.size ≤ k5_3.size := by first | omega | (have := Bk5_16.size; omega)
    obtain ⟨k5_17, wk5_17, xk5_17, lk5_17, Bk5_17, ok5_17⟩ := store_step (l := uu) Bk5_16 xk5_4k5_9k5_16 qk5_17 lu
    have xk5_1k5_2k5_3k5_4k5_9k5_16k5_17 := ok5_17 (g5.size) _ (by omega) xk5_1k5_2k5_3k5_4k5_9k5_16
    have xk5_9k5_16k5_17 := ok5_17 (k5_2.size) _ (by omega) xk5_9k5_16
    have xk5_16k5_17 := ok5_17 (k5_1.size) _ (by omega) xk5_16
    have qk5_18 : g5.size ≤ g5.size := by first | omega | (have := Bk5_17.size; omega)
    obtain ⟨k5_18, wk5_18, xk5_18, lk5_18, Bk5_18, ok5_18⟩ := store_step (l := one16) Bk5_17 xk5_1k5_2k5_3k5_4k5_9k5_16k5_17 qk5_18 rfl
    rw [one_v] at wk5_18
    have xk5_9k5_16k5_17k5_18 := ok5_18 (k5_2.size) _ (by omega) xk5_9k5_16k5_17
    have xk5_16k5_17k5_18 := ok5_18 (k5_1.size) _ (by omega) xk5_16k5_17
    have xk5_17k5_18 := ok5_18 (k5_3.size) _ (by omega) xk5_17
    have qk5_19 : g5.size ≤ k5_1.size := by first | omega | (have := Bk5_4.size; omega)
    obtain ⟨k5_19, wk5_19, xk5_19, lk5_19, Bk5_19, ok5_19⟩ := store_step (l := one16) Bk5_4 xk5_2k5_3k5_4 qk5_19 rfl
    rw [one_v] at wk5_19
    have xk5_1k5_2k5_3k5_4k5_19 := ok5_19 (g5.size) _ (by omega) xk5_1k5_2k5_3k5_4
    have xk5_3k5_4k5_19 := ok5_19 (k5_2.size) _ (by omega) xk5_3k5_4
    have xk5_4k5_19 := ok5_19 (k5_3.size) _ (by omega) xk5_4
    have qk5_20 : g5.size ≤ k5_3.size := by first | omega | (have := Bk5_19.size; omega)
    obtain ⟨k5_20, wk5_20, xk5_20, lk5_20, Bk5_20, ok5_20⟩ := store_step (l := zer16) Bk5_19 xk5_4k5_19 qk5_20 rfl
    rw [zer_v] at wk5_20
    have xk5_1k5_2k5_3k5_4k5_19k5_20 := ok5_20 (g5.size) _ (by omega) xk5_1k5_2k5_3k5_4k5_19
    have xk5_3k5_4k5_19k5_20 := ok5_20 (k5_2.size) _ (by omega) xk5_3k5_4k5_19
    have xk5_19k5_20 := ok5_20 (k5_1.size) _ (by omega) xk5_19
    have qk5_21 : g5.size ≤ k5_2.size := by first | omega | (have := Bk5_20.size; omega)
    obtain ⟨k5_21, wk5_21, xk5_21, lk5_21, Bk5_21, ok5_21⟩ := store_step (l := uu) Bk5_20 xk5_3k5_4k5_19k5_20 qk5_21 lu
    have xk5_1k5_2k5_3k5_4k5_19k5_20k5_21 := ok5_21 (g5.size) _ (by omega) xk5_1k5_2k5_3k5_4k5_19k5_20
    have xk5_19k5_20k5_21 := ok5_21 (k5_1.size) _ (by omega) xk5_19k5_20
    have xk5_20k5_21 := ok5_21 (k5_3.size) _ (by omega) xk5_20
    have qk5_22 : g5.size ≤ g5.size := by first | omega | (have := Bk5_21.size; omega)
    obtain ⟨k5_22, wk5_22, xk5_22, lk5_22, Bk5_22, ok5_22⟩ := store_step (l := one16) Bk5_21 xk5_1k5_2k5_3k5_4k5_19k5_20k5_21 qk5_22 rfl
    rw [one_v] at wk5_22
    have xk5_19k5_20k5_21k5_22 := ok5_22 (k5_1.size) _ (by omega) xk5_19k5_20k5_21
    have xk5_20k5_21k5_22 := ok5_22 (k5_3.size) _ (by omega) xk5_20k5_21
    have xk5_21k5_22 := ok5_22 (k5_2.size) _ (by omega) xk5_21
    have qk5_23 : g5.size ≤ k5_2.size := by first | omega | (have := Bk5_19.size; omega)
    obtain ⟨k5_23, wk5_23, xk5_23, lk5_23, Bk5_23, ok5_23⟩ := store_step (l := zer16) Bk5_19 xk5_3k5_4k5_19 qk5_23 rfl
    rw [zer_v] at wk5_23
    have xk5_1k5_2k5_3k5_4k5_19k5_23 := ok5_23 (g5.size) _ (by omega) xk5_1k5_2k5_3k5_4k5_19
    have xk5_4k5_19k5_23 := ok5_23 (k5_3.size) _ (by omega) xk5_4k5_19
    have xk5_19k5_23 := ok5_23 (k5_1.size) _ (by omega) xk5_19
    have qk5_24 : g5.size ≤ k5_3.size := by first | omega | (have := Bk5_23.size; omega)
    obtain ⟨k5_24, wk5_24, xk5_24, lk5_24, Bk5_24, ok5_24⟩ := store_step (l := uu) Bk5_23 xk5_4k5_19k5_23 qk5_24 lu
    have xk5_1k5_2k5_3k5_4k5_19k5_23k5_24 := ok5_24 (g5.size) _ (by omega) xk5_1k5_2k5_3k5_4k5_19k5_23
    have xk5_19k5_23k5_24 := ok5_24 (k5_1.size) _ (by omega) xk5_19k5_23
    have xk5_23k5_24 := ok5_24 (k5_2.size) _ (by omega) xk5_23
    have qk5_25 : g5.size ≤ g5.size := by first | omega | (have := Bk5_24.size; omega)
    obtain ⟨k5_25, wk5_25, xk5_25, lk5_25, Bk5_25, ok5_25⟩ := store_step (l := one16) Bk5_24 xk5_1k5_2k5_3k5_4k5_19k5_23k5_24 qk5_25 rfl
    rw [one_v] at wk5_25
    have xk5_19k5_23k5_24k5_25 := ok5_25 (k5_1.size) _ (by omega) xk5_19k5_23k5_24
    have xk5_23k5_24k5_25 := ok5_25 (k5_2.size) _ (by omega) xk5_23k5_24
    have xk5_24k5_25 := ok5_25 (k5_3.size) _ (by omega) xk5_24
    have qk5_26 : g5.size ≤ g5.size := by first | omega | (have := Bk5_6.size; omega)
    obtain ⟨k5_26, wk5_26, xk5_26, lk5_26, Bk5_26, ok5_26⟩ := store_step (l := uu) Bk5_6 xk5_1k5_2k5_3k5_4k5_5k5_6 qk5_26 lu
    have xk5_2k5_3k5_4k5_5k5_6k5_26 := ok5_26 (k5_1.size) _ (by omega) xk5_2k5_3k5_4k5_5k5_6
    have xk5_5k5_6k5_26 := ok5_26 (k5_3.size) _ (by omega) xk5_5k5_6
    have xk5_6k5_26 := ok5_26 (k5_2.size) _ (by omega) xk5_6
    have qk5_27 : g5.size ≤ k5_1.size := by first | omega | (have := Bk5_26.size; omega)
    obtain ⟨k5_27, wk5_27, xk5_27, lk5_27, Bk5_27, ok5_27⟩ := store_step (l := one16) Bk5_26 xk5_2k5_3k5_4k5_5k5_6k5_26 qk5_27 rfl
    rw [one_v] at wk5_27
    have xk5_5k5_6k5_26k5_27 := ok5_27 (k5_3.size) _ (by omega) xk5_5k5_6k5_26
    have xk5_6k5_26k5_27 := ok5_27 (k5_2.size) _ (by omega) xk5_6k5_26
    have xk5_26k5_27 := ok5_27 (g5.size) _ (by omega) xk5_26
    have qk5_28 : g5.size ≤ g5.size := by first | omega | (have := Bk5_10.size; omega)
    obtain ⟨k5_28, wk5_28, xk5_28, lk5_28, Bk5_28, ok5_28⟩ := store_step (l := uu) Bk5_10 xk5_1k5_2k5_3k5_4k5_9k5_10 qk5_28 lu
    have xk5_2k5_3k5_4k5_9k5_10k5_28 := ok5_28 (k5_1.size) _ (by omega) xk5_2k5_3k5_4k5_9k5_10
    have xk5_9k5_10k5_28 := ok5_28 (k5_2.size) _ (by omega) xk5_9k5_10
    have xk5_10k5_28 := ok5_28 (k5_3.size) _ (by omega) xk5_10
    have qk5_29 : g5.size ≤ k5_1.size := by first | omega | (have := Bk5_28.size; omega)
    obtain ⟨k5_29, wk5_29, xk5_29, lk5_29, Bk5_29, ok5_29⟩ := store_step (l := one16) Bk5_28 xk5_2k5_3k5_4k5_9k5_10k5_28 qk5_29 rfl
    rw [one_v] at wk5_29
    have xk5_9k5_10k5_28k5_29 := ok5_29 (k5_2.size) _ (by omega) xk5_9k5_10k5_28
    have xk5_10k5_28k5_29 := ok5_29 (k5_3.size) _ (by omega) xk5_10k5_28
    have xk5_28k5_29 := ok5_29 (g5.size) _ (by omega) xk5_28
    have qk5_30 : g5.size ≤ g5.size := by first | omega | (have := Bk5_13.size; omega)
    obtain ⟨k5_30, wk5_30, xk5_30, lk5_30, Bk5_30, ok5_30⟩ := store_step (l := uu) Bk5_13 xk5_1k5_2k5_3k5_4k5_5k5_13 qk5_30 lu
    have xk5_3k5_4k5_5k5_13k5_30 := ok5_30 (k5_2.size) _ (by omega) xk5_3k5_4k5_5k5_13
    have xk5_5k5_13k5_30 := ok5_30 (k5_3.size) _ (by omega) xk5_5k5_13
    have xk5_13k5_30 := ok5_30 (k5_1.size) _ (by omega) xk5_13
    have qk5_31 : g5.size ≤ k5_2.size := by first | omega | (have := Bk5_30.size; omega)
    obtain ⟨k5_31, wk5_31, xk5_31, lk5_31, Bk5_31, ok5_31⟩ := store_step (l := one16) Bk5_30 xk5_3k5_4k5_5k5_13k5_30 qk5_31 rfl
    rw [one_v] at wk5_31
    have xk5_5k5_13k5_30k5_31 := ok5_31 (k5_3.size) _ (by omega) xk5_5k5_13k5_30
    have xk5_13k5_30k5_31 := ok5_31 (k5_1.size) _ (by omega) xk5_13k5_30
    have xk5_30k5_31 := ok5_31 (g5.size) _ (by omega) xk5_30
    have qk5_32 : g5.size ≤ g5.size := by first | omega | (have := Bk5_16.size; omega)
    obtain ⟨k5_32, wk5_32, xk5_32, lk5_32, Bk5_32, ok5_32⟩ := store_step (l := uu) Bk5_16 xk5_1k5_2k5_3k5_4k5_9k5_16 qk5_32 lu
    have xk5_4k5_9k5_16k5_32 := ok5_32 (k5_3.size) _ (by omega) xk5_4k5_9k5_16
    have xk5_9k5_16k5_32 := ok5_32 (k5_2.size) _ (by omega) xk5_9k5_16
    have xk5_16k5_32 := ok5_32 (k5_1.size) _ (by omega) xk5_16
    have qk5_33 : g5.size ≤ k5_3.size := by first | omega | (have := Bk5_32.size; omega)
    obtain ⟨k5_33, wk5_33, xk5_33, lk5_33, Bk5_33, ok5_33⟩ := store_step (l := one16) Bk5_32 xk5_4k5_9k5_16k5_32 qk5_33 rfl
    rw [one_v] at wk5_33
    have xk5_9k5_16k5_32k5_33 := ok5_33 (k5_2.size) _ (by omega) xk5_9k5_16k5_32
    have xk5_16k5_32k5_33 := ok5_33 (k5_1.size) _ (by omega) xk5_16k5_32
    have xk5_32k5_33 := ok5_33 (g5.size) _ (by omega) xk5_32
    have qk5_34 : g5.size ≤ g5.size := by first | omega | (have := Bk5_20.size; omega)
    obtain ⟨k5_34, wk5_34, xk5_34, lk5_34, Bk5_34, ok5_34⟩ := store_step (l := uu) Bk5_20 xk5_1k5_2k5_3k5_4k5_19k5_20 qk5_34 lu
    have xk5_3k5_4k5_19k5_20k5_34 := ok5_34 (k5_2.size) _ (by omega) xk5_3k5_4k5_19k5_20
    have xk5_19k5_20k5_34 := ok5_34 (k5_1.size) _ (by omega) xk5_19k5_20
    have xk5_20k5_34 := ok5_34 (k5_3.size) _ (by omega) xk5_20
    have qk5_35 : g5.size ≤ k5_2.size := by first | omega | (have := Bk5_34.size; omega)
    obtain ⟨k5_35, wk5_35, xk5_35, lk5_35, Bk5_35, ok5_35⟩ := store_step (l := one16) Bk5_34 xk5_3k5_4k5_19k5_20k5_34 qk5_35 rfl
    rw [one_v] at wk5_35
    have xk5_19k5_20k5_34k5_35 := ok5_35 (k5_1.size) _ (by omega) xk5_19k5_20k5_34
    have xk5_20k5_34k5_35 := ok5_35 (k5_3.size) _ (by omega) xk5_20k5_34
    have xk5_34k5_35 := ok5_35 (g5.size) _ (by omega) xk5_34
    have qk5_36 : g5.size ≤ g5.size := by first | omega | (have := Bk5_23.size; omega)
    obtain ⟨k5_36, wk5_36, xk5_36, lk5_36, Bk5_36, ok5_36⟩ := store_step (l := uu) Bk5_23 xk5_1k5_2k5_3k5_4k5_19k5_23 qk5_36 lu
    have xk5_4k5_19k5_23k5_36 := ok5_36 (k5_3.size) _ (by omega) xk5_4k5_19k5_23
    have xk5_19k5_23k5_36 := ok5_36 (k5_1.size) _ (by omega) xk5_19k5_23
    have xk5_23k5_36 := ok5_36 (k5_2.size) _ (by omega) xk5_23
    have qk5_37 : g5.size ≤ k5_3.size := by first | omega | (have := Bk5_36.size; omega)
    obtain ⟨k5_37, wk5_37, xk5_37, lk5_37, Bk5_37, ok5_37⟩ := store_step (l := one16) Bk5_36 xk5_4k5_19k5_23k5_36 qk5_37 rfl
    rw [one_v] at wk5_37
    have xk5_19k5_23k5_36k5_37 := ok5_37 (k5_1.size) _ (by omega) xk5_19k5_23k5_36
    have xk5_23k5_36k5_37 := ok5_37 (k5_2.size) _ (by omega) xk5_23k5_36
    have xk5_36k5_37 := ok5_37 (g5.size) _ (by omega) xk5_36
    have qk5_38 : g5.size ≤ g5.size := by first | omega | (have := Bk5_5.size; omega)
    obtain ⟨k5_38, wk5_38, xk5_38, lk5_38, Bk5_38, ok5_38⟩ := store_step (l := zer16) Bk5_5 xk5_1k5_2k5_3k5_4k5_5 qk5_38 rfl
    rw [zer_v] at wk5_38
    have xk5_2k5_3k5_4k5_5k5_38 := ok5_38 (k5_1.size) _ (by omega) xk5_2k5_3k5_4k5_5
    have xk5_3k5_4k5_5k5_38 := ok5_38 (k5_2.size) _ (by omega) xk5_3k5_4k5_5
    have xk5_5k5_38 := ok5_38 (k5_3.size) _ (by omega) xk5_5
    have qk5_39 : g5.size ≤ k5_2.size := by first | omega | (have := Bk5_38.size; omega)
    obtain ⟨k5_39, wk5_39, xk5_39, lk5_39, Bk5_39, ok5_39⟩ := store_step (l := uu) Bk5_38 xk5_3k5_4k5_5k5_38 qk5_39 lu
    have xk5_2k5_3k5_4k5_5k5_38k5_39 := ok5_39 (k5_1.size) _ (by omega) xk5_2k5_3k5_4k5_5k5_38
    have xk5_5k5_38k5_39 := ok5_39 (k5_3.size) _ (by omega) xk5_5k5_38
    have xk5_38k5_39 := ok5_39 (g5.size) _ (by omega) xk5_38
    have qk5_40 : g5.size ≤ k5_1.size := by first | omega | (have := Bk5_39.size; omega)
    obtain ⟨k5_40, wk5_40, xk5_40, lk5_40, Bk5_40, ok5_40⟩ := store_step (l := one16) Bk5_39 xk5_2k5_3k5_4k5_5k5_38k5_39 qk5_40 rfl
    rw [one_v] at wk5_40
    have xk5_5k5_38k5_39k5_40 := ok5_40 (k5_3.size) _ (by omega) xk5_5k5_38k5_39
    have xk5_38k5_39k5_40 := ok5_40 (g5.size) _ (by omega) xk5_38k5_39
    have xk5_39k5_40 := ok5_40 (k5_2.size) _ (by omega) xk5_39
    have qk5_41 : g5.size ≤ g5.size := by first | omega | (have := Bk5_9.size; omega)
    obtain ⟨k5_41, wk5_41, xk5_41, lk5_41, Bk5_41, ok5_41⟩ := store_step (l := zer16) Bk5_9 xk5_1k5_2k5_3k5_4k5_9 qk5_41 rfl
    rw [zer_v] at wk5_41
    have xk5_2k5_3k5_4k5_9k5_41 := ok5_41 (k5_1.size) _ (by omega) xk5_2k5_3k5_4k5_9
    have xk5_4k5_9k5_41 := ok5_41 (k5_3.size) _ (by omega) xk5_4k5_9
    have xk5_9k5_41 := ok5_41 (k5_2.size) _ (by omega) xk5_9
    have qk5_42 : g5.size ≤ k5_3.size := by first | omega | (have := Bk5_41.size; omega)
    obtain ⟨k5_42, wk5_42, xk5_42, lk5_42, Bk5_42, ok5_42⟩ := store_step (l := uu) Bk5_41 xk5_4k5_9k5_41 qk5_42 lu
    have xk5_2k5_3k5_4k5_9k5_41k5_42 := ok5_42 (k5_1.size) _ (by omega) xk5_2k5_3k5_4k5_9k5_41
    have xk5_9k5_41k5_42 := ok5_42 (k5_2.size) _ (by omega) xk5_9k5_41
    have xk5_41k5_42 := ok5_42 (g5.size) _ (by omega) xk5_41
    have qk5_43 : g5.size ≤ k5_1.size := by first | omega | (have := Bk5_42.size; omega)
    obtain ⟨k5_43, wk5_43, xk5_43, lk5_43, Bk5_43, ok5_43⟩ := store_step (l := one16) Bk5_42 xk5_2k5_3k5_4k5_9k5_41k5_42 qk5_43 rfl
    rw [one_v] at wk5_43
    have xk5_9k5_41k5_42k5_43 := ok5_43 (k5_2.size) _ (by omega) xk5_9k5_41k5_42
    have xk5_41k5_42k5_43 := ok5_43 (g5.size) _ (by omega) xk5_41k5_42
    have xk5_42k5_43 := ok5_43 (k5_3.size) _ (by omega) xk5_42
    have qk5_44 : g5.size ≤ k5_1.size := by first | omega | (have := Bk5_38.size; omega)
    obtain ⟨k5_44, wk5_44, xk5_44, lk5_44, Bk5_44, ok5_44⟩ := store_step (l := uu) Bk5_38 xk5_2k5_3k5_4k5_5k5_38 qk5_44 lu
    have xk5_3k5_4k5_5k5_38k5_44 := ok5_44 (k5_2.size) _ (by omega) xk5_3k5_4k5_5k5_38
    have xk5_5k5_38k5_44 := ok5_44 (k5_3.size) _ (by omega) xk5_5k5_38
    have xk5_38k5_44 := ok5_44 (g5.size) _ (by omega) xk5_38
    have qk5_45 : g5.size ≤ k5_2.size := by first | omega | (have := Bk5_44.size; omega)
    obtain ⟨k5_45, wk5_45, xk5_45, lk5_45, Bk5_45, ok5_45⟩ := store_step (l := one16) Bk5_44 xk5_3k5_4k5_5k5_38k5_44 qk5_45 rfl
    rw [one_v] at wk5_45
    have xk5_5k5_38k5_44k5_45 := ok5_45 (k5_3.size) _ (by omega) xk5_5k5_38k5_44
    have xk5_38k5_44k5_45 := ok5_45 (g5.size) _ (by omega) xk5_38k5_44
    have xk5_44k5_45 := ok5_45 (k5_1.size) _ (by omega) xk5_44
    have qk5_46 : g5.size ≤ k5_1.size := by first | omega | (have := Bk5_41.size; omega)
    obtain ⟨k5_46, wk5_46, xk5_46, lk5_46, Bk5_46, ok5_46⟩ := store_step (l := uu) Bk5_41 xk5_2k5_3k5_4k5_9k5_41 qk5_46 lu
    have xk5_4k5_9k5_41k5_46 := ok5_46 (k5_3.size) _ (by omega) xk5_4k5_9k5_41
    have xk5_9k5_41k5_46 := ok5_46 (k5_2.size) _ (by omega) xk5_9k5_41
    have xk5_41k5_46 := ok5_46 (g5.size) _ (by omega) xk5_41
    have qk5_47 : g5.size ≤ k5_3.size := by first | omega | (have := Bk5_46.size; omega)
    obtain ⟨k5_47, wk5_47, xk5_47, lk5_47, Bk5_47, ok5_47⟩ := store_step (l := one16) Bk5_46 xk5_4k5_9k5_41k5_46 qk5_47 rfl
    rw [one_v] at wk5_47
    have xk5_9k5_41k5_46k5_47 := ok5_47 (k5_2.size) _ (by omega) xk5_9k5_41k5_46
    have xk5_41k5_46k5_47 := ok5_47 (g5.size) _ (by omega) xk5_41k5_46
    have xk5_46k5_47 := ok5_47 (k5_1.size) _ (by omega) xk5_46
    have qk5_48 : g5.size ≤ g5.size := by first | omega | (have := Bk5_19.size; omega)
    obtain ⟨k5_48, wk5_48, xk5_48, lk5_48, Bk5_48, ok5_48⟩ := store_step (l := zer16) Bk5_19 xk5_1k5_2k5_3k5_4k5_19 qk5_48 rfl
    rw [zer_v] at wk5_48
    have xk5_3k5_4k5_19k5_48 := ok5_48 (k5_2.size) _ (by omega) xk5_3k5_4k5_19
    have xk5_4k5_19k5_48 := ok5_48 (k5_3.size) _ (by omega) xk5_4k5_19
    have xk5_19k5_48 := ok5_48 (k5_1.size) _ (by omega) xk5_19
    have qk5_49 : g5.size ≤ k5_3.size := by first | omega | (have := Bk5_48.size; omega)
    obtain ⟨k5_49, wk5_49, xk5_49, lk5_49, Bk5_49, ok5_49⟩ := store_step (l := uu) Bk5_48 xk5_4k5_19k5_48 qk5_49 lu
    have xk5_3k5_4k5_19k5_48k5_49 := ok5_49 (k5_2.size) _ (by omega) xk5_3k5_4k5_19k5_48
    have xk5_19k5_48k5_49 := ok5_49 (k5_1.size) _ (by omega) xk5_19k5_48
    have xk5_48k5_49 := ok5_49 (g5.size) _ (by omega) xk5_48
    have qk5_50 : g5.size ≤ k5_2.size := by first | omega | (have := Bk5_49.size; omega)
    obtain ⟨k5_50, wk5_50, xk5_50, lk5_50, Bk5_50, ok5_50⟩ := store_step (l := one16) Bk5_49 xk5_3k5_4k5_19k5_48k5_49 qk5_50 rfl
    rw [one_v] at wk5_50
    have xk5_19k5_48k5_49k5_50 := ok5_50 (k5_1.size) _ (by omega) xk5_19k5_48k5_49
    have xk5_48k5_49k5_50 := ok5_50 (g5.size) _ (by omega) xk5_48k5_49
    have xk5_49k5_50 := ok5_50 (k5_3.size) _ (by omega) xk5_49
    have qk5_51 : g5.size ≤ k5_2.size := by first | omega | (have := Bk5_48.size; omega)
    obtain ⟨k5_51, wk5_51, xk5_51, lk5_51, Bk5_51, ok5_51⟩ := store_step (l := uu) Bk5_48 xk5_3k5_4k5_19k5_48 qk5_51 lu
    have xk5_4k5_19k5_48k5_51 := ok5_51 (k5_3.size) _ (by omega) xk5_4k5_19k5_48
    have xk5_19k5_48k5_51 := ok5_51 (k5_1.size) _ (by omega) xk5_19k5_48
    have xk5_48k5_51 := ok5_51 (g5.size) _ (by omega) xk5_48
    have qk5_52 : g5.size ≤ k5_3.size := by first | omega | (have := Bk5_51.size; omega)
    obtain ⟨k5_52, wk5_52, xk5_52, lk5_52, Bk5_52, ok5_52⟩ := store_step (l := one16) Bk5_51 xk5_4k5_19k5_48k5_51 qk5_52 rfl
    rw [one_v] at wk5_52
    have xk5_19k5_48k5_51k5_52 := ok5_52 (k5_1.size) _ (by omega) xk5_19k5_48k5_51
    have xk5_48k5_51k5_52 := ok5_52 (g5.size) _ (by omega) xk5_48k5_51
    have xk5_51k5_52 := ok5_52 (k5_2.size) _ (by omega) xk5_51
    have qk5_53 : g5.size ≤ g5.size := by first | omega | (have := Bk5_4.size; omega)
    obtain ⟨k5_53, wk5_53, xk5_53, lk5_53, Bk5_53, ok5_53⟩ := store_step (l := one16) Bk5_4 xk5_1k5_2k5_3k5_4 qk5_53 rfl
    rw [one_v] at wk5_53
    have xk5_2k5_3k5_4k5_53 := ok5_53 (k5_1.size) _ (by omega) xk5_2k5_3k5_4
    have xk5_3k5_4k5_53 := ok5_53 (k5_2.size) _ (by omega) xk5_3k5_4
    have xk5_4k5_53 := ok5_53 (k5_3.size) _ (by omega) xk5_4
    have qk5_54 : g5.size ≤ k5_3.size := by first | omega | (have := Bk5_53.size; omega)
    obtain ⟨k5_54, wk5_54, xk5_54, lk5_54, Bk5_54, ok5_54⟩ := store_step (l := zer16) Bk5_53 xk5_4k5_53 qk5_54 rfl
    rw [zer_v] at wk5_54
    have xk5_2k5_3k5_4k5_53k5_54 := ok5_54 (k5_1.size) _ (by omega) xk5_2k5_3k5_4k5_53
    have xk5_3k5_4k5_53k5_54 := ok5_54 (k5_2.size) _ (by omega) xk5_3k5_4k5_53
    have xk5_53k5_54 := ok5_54 (g5.size) _ (by omega) xk5_53
    have qk5_55 : g5.size ≤ k5_2.size := by first | omega | (have := Bk5_54.size; omega)
    obtain ⟨k5_55, wk5_55, xk5_55, lk5_55, Bk5_55, ok5_55⟩ := store_step (l := uu) Bk5_54 xk5_3k5_4k5_53k5_54 qk5_55 lu
    have xk5_2k5_3k5_4k5_53k5_54k5_55 := ok5_55 (k5_1.size) _ (by omega) xk5_2k5_3k5_4k5_53k5_54
    have xk5_53k5_54k5_55 := ok5_55 (g5.size) _ (by omega) xk5_53k5_54
    have xk5_54k5_55 := ok5_55 (k5_3.size) _ (by omega) xk5_54
    have qk5_56 : g5.size ≤ k5_1.size := by first | omega | (have := Bk5_55.size; omega)
    obtain ⟨k5_56, wk5_56, xk5_56, lk5_56, Bk5_56, ok5_56⟩ := store_step (l := one16) Bk5_55 xk5_2k5_3k5_4k5_53k5_54k5_55 qk5_56 rfl
    rw [one_v] at wk5_56
    have xk5_53k5_54k5_55k5_56 := ok5_56 (g5.size) _ (by omega) xk5_53k5_54k5_55
    have xk5_54k5_55k5_56 := ok5_56 (k5_3.size) _ (by omega) xk5_54k5_55
    have xk5_55k5_56 := ok5_56 (k5_2.size) _ (by omega) xk5_55
    have qk5_57 : g5.size ≤ k5_2.size := by first | omega | (have := Bk5_53.size; omega)
    obtain ⟨k5_57, wk5_57, xk5_57, lk5_57, Bk5_57, ok5_57⟩ := store_step (l := zer16) Bk5_53 xk5_3k5_4k5_53 qk5_57 rfl
    rw [zer_v] at wk5_57
    have xk5_2k5_3k5_4k5_53k5_57 := ok5_57 (k5_1.size) _ (by omega) xk5_2k5_3k5_4k5_53
    have xk5_4k5_53k5_57 := ok5_57 (k5_3.size) _ (by omega) xk5_4k5_53
    have xk5_53k5_57 := ok5_57 (g5.size) _ (by omega) xk5_53
    have qk5_58 : g5.size ≤ k5_3.size := by first | omega | (have := Bk5_57.size; omega)
    obtain ⟨k5_58, wk5_58, xk5_58, lk5_58, Bk5_58, ok5_58⟩ := store_step (l := uu) Bk5_57 xk5_4k5_53k5_57 qk5_58 lu
    have xk5_2k5_3k5_4k5_53k5_57k5_58 := ok5_58 (k5_1.size) _ (by omega) xk5_2k5_3k5_4k5_53k5_57
    have xk5_53k5_57k5_58 := ok5_58 (g5.size) _ (by omega) xk5_53k5_57
    have xk5_57k5_58 := ok5_58 (k5_2.size) _ (by omega) xk5_57
    have qk5_59 : g5.size ≤ k5_1.size := by first | omega | (have := Bk5_58.size; omega)
    obtain ⟨k5_59, wk5_59, xk5_59, lk5_59, Bk5_59, ok5_59⟩ := store_step (l := one16) Bk5_58 xk5_2k5_3k5_4k5_53k5_57k5_58 qk5_59 rfl
    rw [one_v] at wk5_59
    have xk5_53k5_57k5_58k5_59 := ok5_59 (g5.size) _ (by omega) xk5_53k5_57k5_58
    have xk5_57k5_58k5_59 := ok5_59 (k5_2.size) _ (by omega) xk5_57k5_58
    have xk5_58k5_59 := ok5_59 (k5_3.size) _ (by omega) xk5_58
    have qk5_60 : g5.size ≤ k5_1.size := by first | omega | (have := Bk5_54.size; omega)
    obtain ⟨k5_60, wk5_60, xk5_60, lk5_60, Bk5_60, ok5_60⟩ := store_step (l := uu) Bk5_54 xk5_2k5_3k5_4k5_53k5_54 qk5_60 lu
    have xk5_3k5_4k5_53k5_54k5_60 := ok5_60 (k5_2.size) _ (by omega) xk5_3k5_4k5_53k5_54
    have xk5_53k5_54k5_60 := ok5_60 (g5.size) _ (by omega) xk5_53k5_54
    have xk5_54k5_60 := ok5_60 (k5_3.size) _ (by omega) xk5_54
    have qk5_61 : g5.size ≤ k5_2.size := by first | omega | (have := Bk5_60.size; omega)
    obtain ⟨k5_61, wk5_61, xk5_61, lk5_61, Bk5_61, ok5_61⟩ := store_step (l := one16) Bk5_60 xk5_3k5_4k5_53k5_54k5_60 qk5_61 rfl
    rw [one_v] at wk5_61
    have xk5_53k5_54k5_60k5_61 := ok5_61 (g5.size) _ (by omega) xk5_53k5_54k5_60
    have xk5_54k5_60k5_61 := ok5_61 (k5_3.size) _ (by omega) xk5_54k5_60
    have xk5_60k5_61 := ok5_61 (k5_1.size) _ (by omega) xk5_60
    have qk5_62 : g5.size ≤ k5_1.size := by first | omega | (have := Bk5_57.size; omega)
    obtain ⟨k5_62, wk5_62, xk5_62, lk5_62, Bk5_62, ok5_62⟩ := store_step (l := uu) Bk5_57 xk5_2k5_3k5_4k5_53k5_57 qk5_62 lu
    have xk5_4k5_53k5_57k5_62 := ok5_62 (k5_3.size) _ (by omega) xk5_4k5_53k5_57
    have xk5_53k5_57k5_62 := ok5_62 (g5.size) _ (by omega) xk5_53k5_57
    have xk5_57k5_62 := ok5_62 (k5_2.size) _ (by omega) xk5_57
    have qk5_63 : g5.size ≤ k5_3.size := by first | omega | (have := Bk5_62.size; omega)
    obtain ⟨k5_63, wk5_63, xk5_63, lk5_63, Bk5_63, ok5_63⟩ := store_step (l := one16) Bk5_62 xk5_4k5_53k5_57k5_62 qk5_63 rfl
    rw [one_v] at wk5_63
    have xk5_53k5_57k5_62k5_63 := ok5_63 (g5.size) _ (by omega) xk5_53k5_57k5_62
    have xk5_57k5_62k5_63 := ok5_63 (k5_2.size) _ (by omega) xk5_57k5_62
    have xk5_62k5_63 := ok5_63 (k5_1.size) _ (by omega) xk5_62
    have qk5_64 : g5.size ≤ k5_1.size := by first | omega | (have := Bk5_53.size; omega)
    obtain ⟨k5_64, wk5_64, xk5_64, lk5_64, Bk5_64, ok5_64⟩ := store_step (l := zer16) Bk5_53 xk5_2k5_3k5_4k5_53 qk5_64 rfl
    rw [zer_v] at wk5_64
    have xk5_3k5_4k5_53k5_64 := ok5_64 (k5_2.size) _ (by omega) xk5_3k5_4k5_53
    have xk5_4k5_53k5_64 := ok5_64 (k5_3.size) _ (by omega) xk5_4k5_53
    have xk5_53k5_64 := ok5_64 (g5.size) _ (by omega) xk5_53
    have qk5_65 : g5.size ≤ k5_3.size := by first | omega | (have := Bk5_64.size; omega)
    obtain ⟨k5_65, wk5_65, xk5_65, lk5_65, Bk5_65, ok5_65⟩ := store_step (l := uu) Bk5_64 xk5_4k5_53k5_64 qk5_65 lu
    have xk5_3k5_4k5_53k5_64k5_65 := ok5_65 (k5_2.size) _ (by omega) xk5_3k5_4k5_53k5_64
    have xk5_53k5_64k5_65 := ok5_65 (g5.size) _ (by omega) xk5_53k5_64
    have xk5_64k5_65 := ok5_65 (k5_1.size) _ (by omega) xk5_64
    have qk5_66 : g5.size ≤ k5_2.size := by first | omega | (have := Bk5_65.size; omega)
    obtain ⟨k5_66, wk5_66, xk5_66, lk5_66, Bk5_66, ok5_66⟩ := store_step (l := one16) Bk5_65 xk5_3k5_4k5_53k5_64k5_65 qk5_66 rfl
    rw [one_v] at wk5_66
    have xk5_53k5_64k5_65k5_66 := ok5_66 (g5.size) _ (by omega) xk5_53k5_64k5_65
    have xk5_64k5_65k5_66 := ok5_66 (k5_1.size) _ (by omega) xk5_64k5_65
    have xk5_65k5_66 := ok5_66 (k5_3.size) _ (by omega) xk5_65
    have qk5_67 : g5.size ≤ k5_2.size := by first | omega | (have := Bk5_64.size; omega)
    obtain ⟨k5_67, wk5_67, xk5_67, lk5_67, Bk5_67, ok5_67⟩ := store_step (l := uu) Bk5_64 xk5_3k5_4k5_53k5_64 qk5_67 lu
    have xk5_4k5_53k5_64k5_67 := ok5_67 (k5_3.size) _ (by omega) xk5_4k5_53k5_64
    have xk5_53k5_64k5_67 := ok5_67 (g5.size) _ (by omega) xk5_53k5_64
    have xk5_64k5_67 := ok5_67 (k5_1.size) _ (by omega) xk5_64
    have qk5_68 : g5.size ≤ k5_3.size := by first | omega | (have := Bk5_67.size; omega)
    obtain ⟨k5_68, wk5_68, xk5_68, lk5_68, Bk5_68, ok5_68⟩ := store_step (l := one16) Bk5_67 xk5_4k5_53k5_64k5_67 qk5_68 rfl
    rw [one_v] at wk5_68
    have xk5_53k5_64k5_67k5_68 := ok5_68 (g5.size) _ (by omega) xk5_53k5_64k5_67
    have xk5_64k5_67k5_68 := ok5_68 (k5_1.size) _ (by omega) xk5_64k5_67
    have xk5_67k5_68 := ok5_68 (k5_2.size) _ (by omega) xk5_67
    simp (config := {maxSteps := 2000000, implicitDefEqProofs := false}) only [go_sem, ↓reduceIte, Nat.reduceEqDiff, Nat.reduceAdd, Nat.reduceMul, Nat.reduceLeDiff, Nat.reduceLT, Nat.reduceSub, IntWalk.iteOmega, IntWalk.toNatUp, reduceCtorEq, false_and, and_false, false_or, or_false, true_or, or_true, not_true_eq_false, not_false_eq_true, Bool.not_true, Bool.not_false, Bool.and_true, Bool.true_and, Bool.and_false, Bool.false_and, Bool.not_eq_true, beq_self_eq_true, Nat.add_zero, Int.reduceLE, Int.reduceLT, Int.reduceToNat, Int.reduceNeg, ek5_1, Bk5_1, ek5_2, Bk5_2, ek5_3, Bk5_3, ek5_4, Bk5_4, wk5_5, Bk5_5, lk5_5, wk5_6, Bk5_6, lk5_6, wk5_7, Bk5_7, lk5_7, wk5_8, Bk5_8, lk5_8, wk5_9, Bk5_9, lk5_9, wk5_10, Bk5_10, lk5_10, wk5_11, Bk5_11, lk5_11, wk5_12, Bk5_12, lk5_12, wk5_13, Bk5_13, lk5_13, wk5_14, Bk5_14, lk5_14, wk5_15, Bk5_15, lk5_15, wk5_16, Bk5_16, lk5_16, wk5_17, Bk5_17, lk5_17, wk5_18, Bk5_18, lk5_18, wk5_19, Bk5_19, lk5_19, wk5_20, Bk5_20, lk5_20, wk5_21, Bk5_21, lk5_21, wk5_22, Bk5_22, lk5_22, wk5_23, Bk5_23, lk5_23, wk5_24, Bk5_24, lk5_24, wk5_25, Bk5_25, lk5_25, wk5_26, Bk5_26, lk5_26, wk5_27, Bk5_27, lk5_27, wk5_28, Bk5_28, lk5_28, wk5_29, Bk5_29, lk5_29, wk5_30, Bk5_30, lk5_30, wk5_31, Bk5_31, lk5_31, wk5_32, Bk5_32, lk5_32, wk5_33, Bk5_33, lk5_33, wk5_34, Bk5_34, lk5_34, wk5_35, Bk5_35, lk5_35, wk5_36, Bk5_36, lk5_36, wk5_37, Bk5_37, lk5_37, wk5_38, Bk5_38, lk5_38, wk5_39, Bk5_39, lk5_39, wk5_40, Bk5_40, lk5_40, wk5_41, Bk5_41, lk5_41, wk5_42, Bk5_42, lk5_42, wk5_43, Bk5_43, lk5_43, wk5_44, Bk5_44, lk5_44, wk5_45, Bk5_45, lk5_45, wk5_46, Bk5_46, lk5_46, wk5_47, Bk5_47, lk5_47, wk5_48, Bk5_48, lk5_48, wk5_49, Bk5_49, lk5_49, wk5_50, Bk5_50, lk5_50, wk5_51, Bk5_51, lk5_51, wk5_52, Bk5_52, lk5_52, wk5_53, Bk5_53, lk5_53, wk5_54, Bk5_54, lk5_54, wk5_55, Bk5_55, lk5_55, wk5_56, Bk5_56, lk5_56, wk5_57, Bk5_57, lk5_57, wk5_58, Bk5_58, lk5_58, wk5_59, Bk5_59, lk5_59, wk5_60, Bk5_60, lk5_60, wk5_61, Bk5_61, lk5_61, wk5_62, Bk5_62, lk5_62, wk5_63, Bk5_63, lk5_63, wk5_64, Bk5_64, lk5_64, wk5_65, Bk5_65, lk5_65, wk5_66, Bk5_66, lk5_66, wk5_67, Bk5_67, lk5_67, wk5_68, Bk5_68, lk5_68, rU, tu, lvu, one_v, zer_v]
    refine ⟨?_, ?_⟩
    · refine ⟨?_, ?_⟩
      · refine ⟨?_, ?_⟩
        · refine ⟨Bk5_68, ⟨g5.size, k5_1.size, k5_2.size, k5_3.size, rfl, rfl, rfl, rfl, ⟨?_, ?_, ?_, ?_⟩, ⟨?_, ?_, ?_, ?_, ?_, ?_⟩, xk5_53k5_64k5_67k5_68, xk5_64k5_67k5_68, xk5_67k5_68, xk5_68⟩, fun t h1 h2 h3 h4 h5 => rfl⟩
          · omega
          · omega
          · omega
          · omega
          · omega
          · omega
          · omega
          · omega
          · omega
          · omega
        · refine ⟨Bk5_66, ⟨g5.size, k5_1.size, k5_3.size, k5_2.size, rfl, rfl, rfl, rfl, ⟨?_, ?_, ?_, ?_⟩, ⟨?_, ?_, ?_, ?_, ?_, ?_⟩, xk5_53k5_64k5_65k5_66, xk5_64k5_65k5_66, xk5_65k5_66, xk5_66⟩, fun t h1 h2 h3 h4 h5 => rfl⟩
          · omega
          · omega
          · omega
          · omega
          · omega
          · omega
          · omega
          · omega
          · omega
          · omega
      · refine ⟨?_, ?_⟩
        · refine ⟨?_, ?_⟩
          · refine ⟨Bk5_63, ⟨g5.size, k5_2.size, k5_1.size, k5_3.size, rfl, rfl, rfl, rfl, ⟨?_, ?_, ?_, ?_⟩, ⟨?_, ?_, ?_, ?_, ?_, ?_⟩, xk5_53k5_57k5_62k5_63, xk5_57k5_62k5_63, xk5_62k5_63, xk5_63⟩, fun t h1 h2 h3 h4 h5 => rfl⟩
            · omega
            · omega
            · omega
            · omega
            · omega
            · omega
            · omega
            · omega
            · omega
            · omega
          · refine ⟨Bk5_61, ⟨g5.size, k5_3.size, k5_1.size, k5_2.size, rfl, rfl, rfl, rfl, ⟨?_, ?_, ?_, ?_⟩, ⟨?_, ?_, ?_, ?_, ?_, ?_⟩, xk5_53k5_54k5_60k5_61, xk5_54k5_60k5_61, xk5_60k5_61, xk5_61⟩, fun t h1 h2 h3 h4 h5 => rfl⟩
            · omega
            · omega
            · omega
            · omega
            · omega
            · omega
            · omega
            · omega
            · omega
            · omega
        · refine ⟨?_, ?_⟩
          · refine ⟨Bk5_59, ⟨g5.size, k5_2.size, k5_3.size, k5_1.size, rfl, rfl, rfl, rfl, ⟨?_, ?_, ?_, ?_⟩, ⟨?_, ?_, ?_, ?_, ?_, ?_⟩, xk5_53k5_57k5_58k5_59, xk5_57k5_58k5_59, xk5_58k5_59, xk5_59⟩, fun t h1 h2 h3 h4 h5 => rfl⟩
            · omega
            · omega
            · omega
            · omega
            · omega
            · omega
            · omega
            · omega
            · omega
            · omega
          · refine ⟨Bk5_56, ⟨g5.size, k5_3.size, k5_2.size, k5_1.size, rfl, rfl, rfl, rfl, ⟨?_, ?_, ?_, ?_⟩, ⟨?_, ?_, ?_, ?_, ?_, ?_⟩, xk5_53k5_54k5_55k5_56, xk5_54k5_55k5_56, xk5_55k5_56, xk5_56⟩, fun t h1 h2 h3 h4 h5 => rfl⟩
            · omega
            · omega
            · omega
            · omega
            · omega
            · omega
            · omega
            · omega
            · omega
            · omega
    · refine ⟨?_, ?_⟩
      · refine ⟨?_, ?_⟩
        · refine ⟨?_, ?_⟩
          · refine ⟨Bk5_52, ⟨k5_1.size, g5.size, k5_2.size, k5_3.size, rfl, rfl, rfl, rfl, ⟨?_, ?_, ?_, ?_⟩, ⟨?_, ?_, ?_, ?_, ?_, ?_⟩, xk5_19k5_48k5_51k5_52, xk5_48k5_51k5_52, xk5_51k5_52, xk5_52⟩, fun t h1 h2 h3 h4 h5 => rfl⟩
            · omega
            · omega
            · omega
            · omega
            · omega
            · omega
            · omega
            · omega
            · omega
            · omega
          · refine ⟨Bk5_50, ⟨k5_1.size, g5.size, k5_3.size, k5_2.size, rfl, rfl, rfl, rfl, ⟨?_, ?_, ?_, ?_⟩, ⟨?_, ?_, ?_, ?_, ?_, ?_⟩, xk5_19k5_48k5_49k5_50, xk5_48k5_49k5_50, xk5_49k5_50, xk5_50⟩, fun t h1 h2 h3 h4 h5 => rfl⟩
            · omega
            · omega
            · omega
            · omega
            · omega
            · omega
            · omega
            · omega
            · omega
            · omega
        · refine ⟨?_, ?_⟩
          · refine ⟨?_, ?_⟩
            · refine ⟨Bk5_47, ⟨k5_2.size, g5.size, k5_1.size, k5_3.size, rfl, rfl, rfl, rfl, ⟨?_, ?_, ?_, ?_⟩, ⟨?_, ?_, ?_, ?_, ?_, ?_⟩, xk5_9k5_41k5_46k5_47, xk5_41k5_46k5_47, xk5_46k5_47, xk5_47⟩, fun t h1 h2 h3 h4 h5 => rfl⟩
              · omega
              · omega
              · omega
              · omega
              · omega
              · omega
              · omega
              · omega
              · omega
              · omega
            · refine ⟨Bk5_45, ⟨k5_3.size, g5.size, k5_1.size, k5_2.size, rfl, rfl, rfl, rfl, ⟨?_, ?_, ?_, ?_⟩, ⟨?_, ?_, ?_, ?_, ?_, ?_⟩, xk5_5k5_38k5_44k5_45, xk5_38k5_44k5_45, xk5_44k5_45, xk5_45⟩, fun t h1 h2 h3 h4 h5 => rfl⟩
              · omega
              · omega
              · omega
              · omega
              · omega
              · omega
              · omega
              · omega
              · omega
              · omega
          · refine ⟨?_, ?_⟩
            · refine ⟨Bk5_43, ⟨k5_2.size, g5.size, k5_3.size, k5_1.size, rfl, rfl, rfl, rfl, ⟨?_, ?_, ?_, ?_⟩, ⟨?_, ?_, ?_, ?_, ?_, ?_⟩, xk5_9k5_41k5_42k5_43, xk5_41k5_42k5_43, xk5_42k5_43, xk5_43⟩, fun t h1 h2 h3 h4 h5 => rfl⟩
              · omega
              · omega
              · omega
              · omega
              · omega
              · omega
              · omega
              · omega
              · omega
              · omega
            · refine ⟨Bk5_40, ⟨k5_3.size, g5.size, k5_2.size, k5_1.size, rfl, rfl, rfl, rfl, ⟨?_, ?_, ?_, ?_⟩, ⟨?_, ?_, ?_, ?_, ?_, ?_⟩, xk5_5k5_38k5_39k5_40, xk5_38k5_39k5_40, xk5_39k5_40, xk5_40⟩, fun t h1 h2 h3 h4 h5 => rfl⟩
              · omega
              · omega
              · omega
              · omega
              · omega
              · omega
              · omega
              · omega
              · omega
              · omega
      · refine ⟨?_, ?_⟩
        · refine ⟨?_, ?_⟩
          · refine ⟨?_, ?_⟩
            · refine ⟨Bk5_37, ⟨k5_1.size, k5_2.size, g5.size, k5_3.size, rfl, rfl, rfl, rfl, ⟨?_, ?_, ?_, ?_⟩, ⟨?_, ?_, ?_, ?_, ?_, ?_⟩, xk5_19k5_23k5_36k5_37, xk5_23k5_36k5_37, xk5_36k5_37, xk5_37⟩, fun t h1 h2 h3 h4 h5 => rfl⟩
              · omega
              · omega
              · omega
              · omega
              · omega
              · omega
              · omega
              · omega
              · omega
              · omega
            · refine ⟨Bk5_35, ⟨k5_1.size, k5_3.size, g5.size, k5_2.size, rfl, rfl, rfl, rfl, ⟨?_, ?_, ?_, ?_⟩, ⟨?_, ?_, ?_, ?_, ?_, ?_⟩, xk5_19k5_20k5_34k5_35, xk5_20k5_34k5_35, xk5_34k5_35, xk5_35⟩, fun t h1 h2 h3 h4 h5 => rfl⟩
              · omega
              · omega
              · omega
              · omega
              · omega
              · omega
              · omega
              · omega
              · omega
              · omega
          · refine ⟨?_, ?_⟩
            · refine ⟨?_, ?_⟩
              · refine ⟨Bk5_33, ⟨k5_2.size, k5_1.size, g5.size, k5_3.size, rfl, rfl, rfl, rfl, ⟨?_, ?_, ?_, ?_⟩, ⟨?_, ?_, ?_, ?_, ?_, ?_⟩, xk5_9k5_16k5_32k5_33, xk5_16k5_32k5_33, xk5_32k5_33, xk5_33⟩, fun t h1 h2 h3 h4 h5 => rfl⟩
                · omega
                · omega
                · omega
                · omega
                · omega
                · omega
                · omega
                · omega
                · omega
                · omega
              · refine ⟨Bk5_31, ⟨k5_3.size, k5_1.size, g5.size, k5_2.size, rfl, rfl, rfl, rfl, ⟨?_, ?_, ?_, ?_⟩, ⟨?_, ?_, ?_, ?_, ?_, ?_⟩, xk5_5k5_13k5_30k5_31, xk5_13k5_30k5_31, xk5_30k5_31, xk5_31⟩, fun t h1 h2 h3 h4 h5 => rfl⟩
                · omega
                · omega
                · omega
                · omega
                · omega
                · omega
                · omega
                · omega
                · omega
                · omega
            · refine ⟨?_, ?_⟩
              · refine ⟨Bk5_29, ⟨k5_2.size, k5_3.size, g5.size, k5_1.size, rfl, rfl, rfl, rfl, ⟨?_, ?_, ?_, ?_⟩, ⟨?_, ?_, ?_, ?_, ?_, ?_⟩, xk5_9k5_10k5_28k5_29, xk5_10k5_28k5_29, xk5_28k5_29, xk5_29⟩, fun t h1 h2 h3 h4 h5 => rfl⟩
                · omega
                · omega
                · omega
                · omega
                · omega
                · omega
                · omega
                · omega
                · omega
                · omega
              · refine ⟨Bk5_27, ⟨k5_3.size, k5_2.size, g5.size, k5_1.size, rfl, rfl, rfl, rfl, ⟨?_, ?_, ?_, ?_⟩, ⟨?_, ?_, ?_, ?_, ?_, ?_⟩, xk5_5k5_6k5_26k5_27, xk5_6k5_26k5_27, xk5_26k5_27, xk5_27⟩, fun t h1 h2 h3 h4 h5 => rfl⟩
                · omega
                · omega
                · omega
                · omega
                · omega
                · omega
                · omega
                · omega
                · omega
                · omega
        · refine ⟨?_, ?_⟩
          · refine ⟨?_, ?_⟩
            · refine ⟨Bk5_25, ⟨k5_1.size, k5_2.size, k5_3.size, g5.size, rfl, rfl, rfl, rfl, ⟨?_, ?_, ?_, ?_⟩, ⟨?_, ?_, ?_, ?_, ?_, ?_⟩, xk5_19k5_23k5_24k5_25, xk5_23k5_24k5_25, xk5_24k5_25, xk5_25⟩, fun t h1 h2 h3 h4 h5 => rfl⟩
              · omega
              · omega
              · omega
              · omega
              · omega
              · omega
              · omega
              · omega
              · omega
              · omega
            · refine ⟨Bk5_22, ⟨k5_1.size, k5_3.size, k5_2.size, g5.size, rfl, rfl, rfl, rfl, ⟨?_, ?_, ?_, ?_⟩, ⟨?_, ?_, ?_, ?_, ?_, ?_⟩, xk5_19k5_20k5_21k5_22, xk5_20k5_21k5_22, xk5_21k5_22, xk5_22⟩, fun t h1 h2 h3 h4 h5 => rfl⟩
              · omega
              · omega
              · omega
              · omega
              · omega
              · omega
              · omega
              · omega
              · omega
              · omega
          · refine ⟨?_, ?_⟩
            · refine ⟨?_, ?_⟩
              · refine ⟨Bk5_18, ⟨k5_2.size, k5_1.size, k5_3.size, g5.size, rfl, rfl, rfl, rfl, ⟨?_, ?_, ?_, ?_⟩, ⟨?_, ?_, ?_, ?_, ?_, ?_⟩, xk5_9k5_16k5_17k5_18, xk5_16k5_17k5_18, xk5_17k5_18, xk5_18⟩, fun t h1 h2 h3 h4 h5 => rfl⟩
                · omega
                · omega
                · omega
                · omega
                · omega
                · omega
                · omega
                · omega
                · omega
                · omega
              · refine ⟨Bk5_15, ⟨k5_3.size, k5_1.size, k5_2.size, g5.size, rfl, rfl, rfl, rfl, ⟨?_, ?_, ?_, ?_⟩, ⟨?_, ?_, ?_, ?_, ?_, ?_⟩, xk5_5k5_13k5_14k5_15, xk5_13k5_14k5_15, xk5_14k5_15, xk5_15⟩, fun t h1 h2 h3 h4 h5 => rfl⟩
                · omega
                · omega
                · omega
                · omega
                · omega
                · omega
                · omega
                · omega
                · omega
                · omega
            · refine ⟨?_, ?_⟩
              · refine ⟨Bk5_12, ⟨k5_2.size, k5_3.size, k5_1.size, g5.size, rfl, rfl, rfl, rfl, ⟨?_, ?_, ?_, ?_⟩, ⟨?_, ?_, ?_, ?_, ?_, ?_⟩, xk5_9k5_10k5_11k5_12, xk5_10k5_11k5_12, xk5_11k5_12, xk5_12⟩, fun t h1 h2 h3 h4 h5 => rfl⟩
                · omega
                · omega
                · omega
                · omega
                · omega
                · omega
                · omega
                · omega
                · omega
                · omega
              · refine ⟨Bk5_8, ⟨k5_3.size, k5_2.size, k5_1.size, g5.size, rfl, rfl, rfl, rfl, ⟨?_, ?_, ?_, ?_⟩, ⟨?_, ?_, ?_, ?_, ?_, ?_⟩, xk5_5k5_6k5_7k5_8, xk5_6k5_7k5_8, xk5_7k5_8, xk5_8⟩, fun t h1 h2 h3 h4 h5 => rfl⟩
                · omega
                · omega
                · omega
                · omega
                · omega
                · omega
                · omega
                · omega
                · omega
                · omega
  rintro F g ⟨⟨f5, f6⟩, hB, ⟨A, B, C, D, f7, f8, f9, f10, ⟨hA, hBb, hC, hD⟩, ⟨nAB, nAC, nAD, nBC, nBD, nCD⟩, xA, xB, xC, xD⟩, kp5⟩
  have xk := hB.get (lt_of_get x5) x5
  have xU' := hB.get (lt_of_get xU) xU
  have zU := lt_of_get xU
  have zk := lt_of_get x5
  have hBB := B5.trans (hB.mono B5.size)
  have hsz5 := B5.size
  obtain ⟨K, hK⟩ : ∃ K, K = clampK kl := ⟨_, rfl⟩
  rw [← hK] at xk lk wk
  have lad := ladF_ok K (u := uu) ⟨lu, wu⟩
  have hLU : g4.size = U := hU.symm
  simp (config := {maxSteps := 2000000, implicitDefEqProofs := false}) only [go_sem, ↓reduceIte, Nat.reduceEqDiff, Nat.reduceAdd, Nat.reduceMul, Nat.reduceLeDiff, Nat.reduceLT, Nat.reduceSub, IntWalk.iteOmega, IntWalk.toNatUp, reduceCtorEq, false_and, and_false, false_or, or_false, true_or, or_true, not_true_eq_false, not_false_eq_true, Bool.not_true, Bool.not_false, Bool.and_true, Bool.true_and, Bool.and_false, Bool.false_and, Bool.not_eq_true, beq_self_eq_true, Nat.add_zero, Int.reduceLE, Int.reduceLT, Int.reduceToNat, Int.reduceNeg, f5, f6, f7, f8, f9, f10]
  refine VS.loop' (fun F g => F 5 = .slice (some ⟨bk, 0, none⟩) 32 c1 ∧ F 6 = .pointer (some ⟨U, 0, none⟩) ∧ F 7 = .pointer (some ⟨A, 0, none⟩) ∧ F 8 = .pointer (some ⟨B, 0, none⟩) ∧ F 9 = .pointer (some ⟨C, 0, none⟩) ∧ F 10 = .pointer (some ⟨D, 0, none⟩) ∧ Bel h.size h g ∧ g[bk]? = some (.cells (K.map bv ++ spare).toArray 5) ∧ g[U]? = some (fldC uu) ∧ ∃ j : Nat, j ≤ 255 ∧ F 11 = .int .i64 (254 - (j : Int)) ∧ g[A]? = some (fldC (ladF K uu j).x2) ∧ g[B]? = some (fldC (ladF K uu j).z2) ∧ g[C]? = some (fldC (ladF K uu j).x3) ∧ g[D]? = some (fldC (ladF K uu j).z3))
    (fun F _ => (vi (F 11) + 1).toNat) rfl ⟨f5, f6, f7, f8, f9, f10, hBB, xk, xU', 0, by omega, rfl, xA, xB, xC, xD⟩ ?_
  clear kp5 f5 f6 f7 f8 f9 f10 hB hBB xk xU' xA xB xC xD F g
  rintro F g ⟨f5, f6, f7, f8, f9, f10, hB, xk, xU', j, hj, f11, xA, xB, xC, xD⟩
  by_cases hlt : j < 255
  · obtain ⟨i, hi⟩ : ∃ i : Nat, (i : Int) = 254 - (j : Int) := ⟨254 - j, by omega⟩
    have hij : 254 - j = i := by omega
    have hi31 : i / 8 < 32 := by omega
    rw [← hi] at f11
    have hge : 0 ≤ (i : Int) := by omega
    have d1 : (i : Int).tdiv 8 = ((i / 8 : Nat) : Int) := rfl
    have d2 : (i : Int).tmod 8 = ((i % 8 : Nat) : Int) := rfl
    have yk : V.hc g ⟨bk, i / 8, none⟩ = some (.int .u8 (K.getD (i / 8) 0 : Nat)) := cells_get (f := bv) xk (by omega)
    have eb := kbit_u8 wk i
    have hlt8 : ((i / 8 : Nat) : Int) < 32 := by omega
    have hnn : ¬ ((i % 8 : Nat) : Int) < 0 := by omega
    obtain ⟨b, hb⟩ : ∃ b, b = kbit K i := ⟨_, rfl⟩
    rw [← hb] at eb
    have hnext : ladF K uu (j + 1) = (((ladF K uu j).turn b).core uu).turn b := by rw [ladF, hij, hb]
    have okj := lad j
    obtain ⟨s0, hs0⟩ : ∃ s0, s0 = ladF K uu j := ⟨_, rfl⟩
    rw [← hs0] at xA xB xC xD hnext okj
    obtain ⟨bo, hbo⟩ : ∃ bo : Int, bo = if b then 1 else 0 := ⟨_, rfl⟩
    have hbo0 : 0 ≤ bo := by rw [hbo]; split <;> omega
    have hbo1 : bo ≤ 1 := by rw [hbo]; split <;> omega
    rw [← hbo] at eb
    simp (config := {maxSteps := 2000000, implicitDefEqProofs := false}) only [go_sem, ↓reduceIte, Nat.reduceEqDiff, Nat.reduceAdd, Nat.reduceMul, Nat.reduceLeDiff, Nat.reduceLT, Nat.reduceSub, IntWalk.iteOmega, IntWalk.toNatUp, reduceCtorEq, false_and, and_false, false_or, or_false, true_or, or_true, not_true_eq_false, not_false_eq_true, Bool.not_true, Bool.not_false, Bool.and_true, Bool.true_and, Bool.and_false, Bool.false_and, Bool.not_eq_true, beq_self_eq_true, Nat.add_zero, Int.reduceLE, Int.reduceLT, Int.reduceToNat, Int.reduceNeg, f5, f6, f7, f8, f9, f10, f11, hge, d1, d2, Int.toNat_natCast, hlt8, yk, hnn, eb, hbo0, hbo1]
    obtain ⟨ok1, ok2, ok3, ok4⟩ := okj
    have sw1 := fldSwap_ok T g A C nAC b s0.x2 s0.x3 ok1.1 ok3.1 (ok1.2.mono (by omega)) (ok3.2.mono (by omega)) xA xC
    rw [← hbo, ← FR.turn_x2, ← FR.turn_x3] at sw1
    refine sw1.use ?_
    rintro _ g1 hg1
    obtain ⟨yA, yC, yx⟩ := two_set (o1 := fldC (s0.turn b).x2) (o2 := fldC (s0.turn b).x3) nAC xA xC
    rw [← hg1] at yA yC yx
    have hB1 : Bel h.size h g1 := by rw [hg1]; exact (hB.addSet (by omega) _).addSet (by omega) _
    have yB := (yx B (by omega) (by omega)).trans xB
    have yD := (yx D (by omega) (by omega)).trans xD
    have yU := (yx U (by omega) (by omega)).trans xU'
    have yk1 := (yx bk (by omega) (by omega)).trans xk
    clear hg1 yx sw1
    have sw2 := fldSwap_ok T g1 B D nBD b s0.z2 s0.z3 ok2.1 ok4.1 (ok2.2.mono (by omega)) (ok4.2.mono (by omega)) yB yD
    rw [← hbo, ← FR.turn_z2, ← FR.turn_z3] at sw2
    simp (config := {maxSteps := 2000000, implicitDefEqProofs := false}) only [go_sem, ↓reduceIte, Nat.reduceEqDiff, Nat.reduceAdd, Nat.reduceMul, Nat.reduceLeDiff, Nat.reduceLT, Nat.reduceSub, IntWalk.iteOmega, IntWalk.toNatUp, reduceCtorEq, false_and, and_false, false_or, or_false, true_or, or_true, not_true_eq_false, not_false_eq_true, Bool.not_true, Bool.not_false, Bool.and_true, Bool.true_and, Bool.and_false, Bool.false_and, Bool.not_eq_true, beq_self_eq_true, Nat.add_zero, Int.reduceLE, Int.reduceLT, Int.reduceToNat, Int.reduceNeg, f5, f6, f7, f8, f9, f10, f11]
    refine sw2.use ?_
    rintro _ g2 hg2
    obtain ⟨zB, zD, zx⟩ := two_set (o1 := fldC (s0.turn b).z2) (o2 := fldC (s0.turn b).z3) nBD yB yD
    rw [← hg2] at zB zD zx
    have hB2 : Bel h.size h g2 := by rw [hg2]; exact (hB1.addSet (by omega) _).addSet (by omega) _
    have zA := (zx A (by omega) (by omega)).trans yA
    have zC := (zx C (by omega) (by omega)).trans yC
    have zUu := (zx U (by omega) (by omega)).trans yU
    have zk2 := (zx bk (by omega) (by omega)).trans yk1
    clear hg2 zx sw2 yA yC yB yD yU yk1 xA xB xC xD xU' xk hB hB1
    obtain ⟨s1, hs1⟩ : ∃ s1, s1 = s0.turn b := ⟨_, rfl⟩
    rw [← hs1] at zA zB zC zD hnext
    have ok1s : s1.ok := by rw [hs1]; exact FR.ok.turn ⟨ok1, ok2, ok3, ok4⟩ b
    obtain ⟨⟨lX2, wX2⟩, ⟨lZ2, wZ2⟩, ⟨lX3, wX3⟩, ⟨lZ3, wZ3⟩⟩ := ok1s
    clear hs1
    obtain ⟨X2, Z2, X3, Z3⟩ := s1
    dsimp only at zA zB zC zD lX2 wX2 lZ2 wZ2 lX3 wX3 lZ3 wZ3
    have rA := rd_fld lX2 zA
    have rB := rd_fld lZ2 zB
    have rC := rd_fld lX3 zC
    have rD := rd_fld lZ3 zD
    have tX2 : (X2.map sv).take 16 = X2.map sv := List.take_of_length_le (by simp [lX2])
    have tZ2 : (Z2.map sv).take 16 = Z2.map sv := List.take_of_length_le (by simp [lZ2])
    have tX3 : (X3.map sv).take 16 = X3.map sv := List.take_of_length_le (by simp [lX3])
    have tZ3 : (Z3.map sv).take 16 = Z3.map sv := List.take_of_length_le (by simp [lZ3])
    simp (config := {maxSteps := 2000000, implicitDefEqProofs := false}) only [go_sem, ↓reduceIte, Nat.reduceEqDiff, Nat.reduceAdd, Nat.reduceMul, Nat.reduceLeDiff, Nat.reduceLT, Nat.reduceSub, IntWalk.iteOmega, IntWalk.toNatUp, reduceCtorEq, false_and, and_false, false_or, or_false, true_or, or_true, not_true_eq_false, not_false_eq_true, Bool.not_true, Bool.not_false, Bool.and_true, Bool.true_and, Bool.and_false, Bool.false_and, Bool.not_eq_true, beq_self_eq_true, Nat.add_zero, Int.reduceLE, Int.reduceLT, Int.reduceToNat, Int.reduceNeg, f5, f6, f7, f8, f9, f10, f11]
    refine vs_gen fun E hE => ?_
    have e5 : E 5 = .slice (some ⟨bk, 0, none⟩) 32 c1 := by rw [hE]; exact f5
    have e6 : E 6 = .pointer (some ⟨U, 0, none⟩) := by rw [hE]; exact f6
    have e7 : E 7 = .pointer (some ⟨A, 0, none⟩) := by rw [hE]; exact f7
    have e8 : E 8 = .pointer (some ⟨B, 0, none⟩) := by rw [hE]; exact f8
    have e9 : E 9 = .pointer (some ⟨C, 0, none⟩) := by rw [hE]; exact f9
    have e10 : E 10 = .pointer (some ⟨D, 0, none⟩) := by rw [hE]; exact f10
    have e11 : E 11 = .int .i64 (i : Int) := by rw [hE]; exact f11
    have e12 : E 12 = .int .i64 bo := by rw [hE]; rfl
    clear hE f5 f6 f7 f8 f9 f10 f11 F
    have hzA := lt_of_get zA
    have hzB := lt_of_get zB
    have hzC := lt_of_get zC
    have hzD := lt_of_get zD
    have vX2 : (X2.map sv).length = 16 := by simp [lX2]
    have vZ2 : (Z2.map sv).length = 16 := by simp [lZ2]
    have vX3 : (X3.map sv).length = 16 := by simp [lX3]
    have vZ3 : (Z3.map sv).length = 16 := by simp [lZ3]
    obtain ⟨xa, hxa⟩ : ∃ l, l = fplus X2 Z2 := ⟨_, rfl⟩
    have lxa : xa.length = 16 := by rw [hxa]; unfold fplus; rw [fpl_length]; exact lX2
    have wxa : InK 131148 xa := by rw [hxa]; exact (fplus_in (by omega) (by omega) wX2 wZ2).mono (by omega)
    have cxa : ∀ G, CallsH Try.prog T 40 #[.agg (X2.map sv).toArray, .agg (Z2.map sv).toArray] G fun v' h' => v' = .agg (xa.map sv).toArray ∧ Bel G.size G h' := fun G => by rw [hxa]; exact fldPlus_ok T G X2 Z2 lX2 lZ2 (wX2.mono (by omega)) (wZ2.mono (by omega))
    have txa : (xa.map sv).take 16 = xa.map sv := List.take_of_length_le (by simp [lxa])
    have vxa : (xa.map sv).length = 16 := by simp [lxa]
    obtain ⟨xb, hxb⟩ : ∃ l, l = fminus X2 Z2 := ⟨_, rfl⟩
    have lxb : xb.length = 16 := by rw [hxb]; unfold fminus; rw [fpl_length]; exact lX2
    have wxb : InK 131148 xb := by rw [hxb]; exact (fminus_in (by omega) (by omega) wX2 wZ2).mono (by omega)
    have cxb : ∀ G, CallsH Try.prog T 41 #[.agg (X2.map sv).toArray, .agg (Z2.map sv).toArray] G fun v' h' => v' = .agg (xb.map sv).toArray ∧ Bel G.size G h' := fun G => by rw [hxb]; exact fldMinus_ok T G X2 Z2 lX2 lZ2 (wX2.mono (by omega)) (wZ2.mono (by omega))
    have txb : (xb.map sv).take 16 = xb.map sv := List.take_of_length_le (by simp [lxb])
    have vxb : (xb.map sv).length = 16 := by simp [lxb]
    have rX2_12 := rd_fld lX2 zA
    have yX2_12 := lt_of_get zA
    have rZ2_12 := rd_fld lZ2 zB
    have yZ2_12 := lt_of_get zB
    refine VS.mono (N := RegN g2 13 14 xa xb E) ?_ ?_ (fun _ _ _ h => h) (fun _ _ h => h)
    · refine VS.w (g2.size) [5, 8, 9] (.q 0 (.q 1 (.q 3 (.q 4 (.or 2 (.or 5 (.or 6 (.s 7 (.w 8 (.w 9 .nil))) (.s 7 (.s 6 (.w 8 (.w 9 .nil))))) (.or 6 (.or 5 (.s 7 (.w 8 (.w 9 .nil))) (.s 7 (.w 5 (.w 8 (.w 9 .nil))))) (.s 7 (.or 5 (.s 6 (.w 8 (.w 9 .nil))) (.s 6 (.w 5 (.w 8 (.w 9 .nil)))))))) (.or 6 (.or 2 (.or 5 (.s 7 (.w 8 (.w 9 .nil))) (.s 7 (.w 5 (.w 8 (.w 9 .nil))))) (.s 7 (.s 2 (.w 5 (.w 8 (.w 9 .nil)))))) (.s 7 (.or 2 (.or 5 (.s 6 (.w 8 (.w 9 .nil))) (.s 6 (.w 5 (.w 8 (.w 9 .nil))))) (.s 6 (.s 2 (.w 5 (.w 8 (.w 9 .nil))))))))))))) mixed (by kernel_rfl) ?_
      obtain ⟨k12_1, ek12_1, bk12_1, zk12_1, xk12_1, Bk12_1⟩ := alloc_step (Bel.refl g2.size g2)
      obtain ⟨k12_2, ek12_2, bk12_2, zk12_2, xk12_2, Bk12_2⟩ := alloc_step Bk12_1
      have xk12_1k12_2 := bk12_2.get (lt_of_get xk12_1) xk12_1
      simp (config := {maxSteps := 2000000, implicitDefEqProofs := false}) only [go_sem, ↓reduceIte, Nat.reduceEqDiff, Nat.reduceAdd, Nat.reduceMul, Nat.reduceLeDiff, Nat.reduceLT, Nat.reduceSub, IntWalk.iteOmega, IntWalk.toNatUp, reduceCtorEq, false_and, and_false, false_or, or_false, true_or, or_true, not_true_eq_false, not_false_eq_true, Bool.not_true, Bool.not_false, Bool.and_true, Bool.true_and, Bool.and_false, Bool.false_and, Bool.not_eq_true, beq_self_eq_true, Nat.add_zero, Int.reduceLE, Int.reduceLT, Int.reduceToNat, Int.reduceNeg, ek12_1, Bk12_1, ek12_2, Bk12_2, e7, rX2_12, tX2, vX2, yX2_12, e8, rZ2_12, tZ2, vZ2, yZ2_12]
      refine ⟨?_, ?_⟩
      · refine (cxa g2).use ?_
        rintro _ k12_3 ⟨rfl, bk12_3⟩
        have Bk12_3 : Bel g2.size g2 k12_3 := (Bel.refl g2.size g2).trans (bk12_3.mono (Bel.refl g2.size g2).size)
        have zk12_3 := bk12_3.size
        obtain ⟨k12_4, ek12_4, bk12_4, zk12_4, xk12_4, Bk12_4⟩ := alloc_step Bk12_3
        obtain ⟨k12_5, ek12_5, bk12_5, zk12_5, xk12_5, Bk12_5⟩ := alloc_step Bk12_4
        have xk12_4k12_5 := bk12_5.get (lt_of_get xk12_4) xk12_4
        simp (config := {maxSteps := 2000000, implicitDefEqProofs := false}) only [go_sem, ↓reduceIte, Nat.reduceEqDiff, Nat.reduceAdd, Nat.reduceMul, Nat.reduceLeDiff, Nat.reduceLT, Nat.reduceSub, IntWalk.iteOmega, IntWalk.toNatUp, reduceCtorEq, false_and, and_false, false_or, or_false, true_or, or_true, not_true_eq_false, not_false_eq_true, Bool.not_true, Bool.not_false, Bool.and_true, Bool.true_and, Bool.and_false, Bool.false_and, Bool.not_eq_true, beq_self_eq_true, Nat.add_zero, Int.reduceLE, Int.reduceLT, Int.reduceToNat, Int.reduceNeg, ek12_4, Bk12_4, ek12_5, Bk12_5, e7, rX2_12, tX2, vX2, yX2_12, e8, rZ2_12, tZ2, vZ2, yZ2_12, Bk12_3]
        refine ⟨?_, ?_⟩
        · refine (cxb k12_3).use ?_
          rintro _ k12_6 ⟨rfl, bk12_6⟩
          have Bk12_6 : Bel g2.size g2 k12_6 := Bk12_3.trans (bk12_6.mono Bk12_3.size)
          have zk12_6 := bk12_6.size
          obtain ⟨k12_7, ek12_7, bk12_7, zk12_7, xk12_7, Bk12_7⟩ := alloc_step Bk12_6
          obtain ⟨k12_8, ek12_8, bk12_8, zk12_8, xk12_8, Bk12_8⟩ := alloc_step Bk12_7
          have xk12_7k12_8 := bk12_8.get (lt_of_get xk12_7) xk12_7
          have qk12_9 : g2.size ≤ k12_7.size := by first | omega | (have := Bk12_8.size; omega)
          obtain ⟨k12_9, wk12_9, xk12_9, lk12_9, Bk12_9, ok12_9⟩ := store_step (l := xa) Bk12_8 xk12_8 qk12_9 lxa
          have xk12_7k12_8k12_9 := ok12_9 (k12_6.size) _ (by omega) xk12_7k12_8
          have qk12_10 : g2.size ≤ k12_6.size := by first | omega | (have := Bk12_9.size; omega)
          obtain ⟨k12_10, wk12_10, xk12_10, lk12_10, Bk12_10, ok12_10⟩ := store_step (l := xb) Bk12_9 xk12_7k12_8k12_9 qk12_10 lxb
          have xk12_9k12_10 := ok12_10 (k12_7.size) _ (by omega) xk12_9
          have qk12_11 : g2.size ≤ k12_6.size := by first | omega | (have := Bk12_8.size; omega)
          obtain ⟨k12_11, wk12_11, xk12_11, lk12_11, Bk12_11, ok12_11⟩ := store_step (l := xa) Bk12_8 xk12_7k12_8 qk12_11 lxa
          have xk12_8k12_11 := ok12_11 (k12_7.size) _ (by omega) xk12_8
          have qk12_12 : g2.size ≤ k12_7.size := by first | omega | (have := Bk12_11.size; omega)
          obtain ⟨k12_12, wk12_12, xk12_12, lk12_12, Bk12_12, ok12_12⟩ := store_step (l := xb) Bk12_11 xk12_8k12_11 qk12_12 lxb
          have xk12_11k12_12 := ok12_12 (k12_6.size) _ (by omega) xk12_11
          simp (config := {maxSteps := 2000000, implicitDefEqProofs := false}) only [go_sem, ↓reduceIte, Nat.reduceEqDiff, Nat.reduceAdd, Nat.reduceMul, Nat.reduceLeDiff, Nat.reduceLT, Nat.reduceSub, IntWalk.iteOmega, IntWalk.toNatUp, reduceCtorEq, false_and, and_false, false_or, or_false, true_or, or_true, not_true_eq_false, not_false_eq_true, Bool.not_true, Bool.not_false, Bool.and_true, Bool.true_and, Bool.and_false, Bool.false_and, Bool.not_eq_true, beq_self_eq_true, Nat.add_zero, Int.reduceLE, Int.reduceLT, Int.reduceToNat, Int.reduceNeg, ek12_7, Bk12_7, ek12_8, Bk12_8, wk12_9, Bk12_9, lk12_9, wk12_10, Bk12_10, lk12_10, wk12_11, Bk12_11, lk12_11, wk12_12, Bk12_12, lk12_12, e7, rX2_12, tX2, vX2, yX2_12, e8, rZ2_12, tZ2, vZ2, yZ2_12, Bk12_6]
          refine ⟨?_, ?_⟩
          · refine ⟨Bk12_12, ⟨k12_6.size, k12_7.size, rfl, rfl, ?_, ?_, xk12_11k12_12, xk12_12⟩, fun t h1 h2 h3 => ?_⟩
            · omega
            · omega
            · simp only [updo, upd]
              repeat rw [if_neg (by omega)]
          · refine ⟨Bk12_10, ⟨k12_7.size, k12_6.size, rfl, rfl, ?_, ?_, xk12_9k12_10, xk12_10⟩, fun t h1 h2 h3 => ?_⟩
            · omega
            · omega
            · simp only [updo, upd]
              repeat rw [if_neg (by omega)]
        · refine ⟨?_, ?_⟩
          · refine ⟨?_, ?_⟩
            · refine (cxb k12_4).use ?_
              rintro _ k12_13 ⟨rfl, bk12_13⟩
              have Bk12_13 : Bel g2.size g2 k12_13 := Bk12_4.trans (bk12_13.mono Bk12_4.size)
              have zk12_13 := bk12_13.size
              have xk12_4k12_13 := bk12_13.get (lt_of_get xk12_4) xk12_4
              obtain ⟨k12_14, ek12_14, bk12_14, zk12_14, xk12_14, Bk12_14⟩ := alloc_step Bk12_13
              have xk12_4k12_13k12_14 := bk12_14.get (lt_of_get xk12_4k12_13) xk12_4k12_13
              have qk12_15 : g2.size ≤ k12_3.size := by first | omega | (have := Bk12_14.size; omega)
              obtain ⟨k12_15, wk12_15, xk12_15, lk12_15, Bk12_15, ok12_15⟩ := store_step (l := xa) Bk12_14 xk12_4k12_13k12_14 qk12_15 lxa
              have xk12_14k12_15 := ok12_15 (k12_13.size) _ (by omega) xk12_14
              have qk12_16 : g2.size ≤ k12_13.size := by first | omega | (have := Bk12_15.size; omega)
              obtain ⟨k12_16, wk12_16, xk12_16, lk12_16, Bk12_16, ok12_16⟩ := store_step (l := xb) Bk12_15 xk12_14k12_15 qk12_16 lxb
              have xk12_15k12_16 := ok12_16 (k12_3.size) _ (by omega) xk12_15
              simp (config := {maxSteps := 2000000, implicitDefEqProofs := false}) only [go_sem, ↓reduceIte, Nat.reduceEqDiff, Nat.reduceAdd, Nat.reduceMul, Nat.reduceLeDiff, Nat.reduceLT, Nat.reduceSub, IntWalk.iteOmega, IntWalk.toNatUp, reduceCtorEq, false_and, and_false, false_or, or_false, true_or, or_true, not_true_eq_false, not_false_eq_true, Bool.not_true, Bool.not_false, Bool.and_true, Bool.true_and, Bool.and_false, Bool.false_and, Bool.not_eq_true, beq_self_eq_true, Nat.add_zero, Int.reduceLE, Int.reduceLT, Int.reduceToNat, Int.reduceNeg, ek12_14, Bk12_14, wk12_15, Bk12_15, lk12_15, wk12_16, Bk12_16, lk12_16, e7, rX2_12, tX2, vX2, yX2_12, e8, rZ2_12, tZ2, vZ2, yZ2_12, Bk12_13]
              refine ⟨Bk12_16, ⟨k12_3.size, k12_13.size, rfl, rfl, ?_, ?_, xk12_15k12_16, xk12_16⟩, fun t h1 h2 h3 => ?_⟩
              · omega
              · omega
              · simp only [updo, upd]
                repeat rw [if_neg (by omega)]
            · refine (cxb k12_5).use ?_
              rintro _ k12_17 ⟨rfl, bk12_17⟩
              have Bk12_17 : Bel g2.size g2 k12_17 := Bk12_5.trans (bk12_17.mono Bk12_5.size)
              have zk12_17 := bk12_17.size
              have xk12_4k12_5k12_17 := bk12_17.get (lt_of_get xk12_4k12_5) xk12_4k12_5
              have xk12_5k12_17 := bk12_17.get (lt_of_get xk12_5) xk12_5
              have qk12_18 : g2.size ≤ k12_3.size := by first | omega | (have := Bk12_17.size; omega)
              obtain ⟨k12_18, wk12_18, xk12_18, lk12_18, Bk12_18, ok12_18⟩ := store_step (l := xa) Bk12_17 xk12_4k12_5k12_17 qk12_18 lxa
              have xk12_5k12_17k12_18 := ok12_18 (k12_4.size) _ (by omega) xk12_5k12_17
              have qk12_19 : g2.size ≤ k12_4.size := by first | omega | (have := Bk12_18.size; omega)
              obtain ⟨k12_19, wk12_19, xk12_19, lk12_19, Bk12_19, ok12_19⟩ := store_step (l := xb) Bk12_18 xk12_5k12_17k12_18 qk12_19 lxb
              have xk12_18k12_19 := ok12_19 (k12_3.size) _ (by omega) xk12_18
              simp (config := {maxSteps := 2000000, implicitDefEqProofs := false}) only [go_sem, ↓reduceIte, Nat.reduceEqDiff, Nat.reduceAdd, Nat.reduceMul, Nat.reduceLeDiff, Nat.reduceLT, Nat.reduceSub, IntWalk.iteOmega, IntWalk.toNatUp, reduceCtorEq, false_and, and_false, false_or, or_false, true_or, or_true, not_true_eq_false, not_false_eq_true, Bool.not_true, Bool.not_false, Bool.and_true, Bool.true_and, Bool.and_false, Bool.false_and, Bool.not_eq_true, beq_self_eq_true, Nat.add_zero, Int.reduceLE, Int.reduceLT, Int.reduceToNat, Int.reduceNeg, wk12_18, Bk12_18, lk12_18, wk12_19, Bk12_19, lk12_19, e7, rX2_12, tX2, vX2, yX2_12, e8, rZ2_12, tZ2, vZ2, yZ2_12, Bk12_17]
              refine ⟨Bk12_19, ⟨k12_3.size, k12_4.size, rfl, rfl, ?_, ?_, xk12_18k12_19, xk12_19⟩, fun t h1 h2 h3 => ?_⟩
              · omega
              · omega
              · simp only [updo, upd]
                repeat rw [if_neg (by omega)]
          · refine ⟨?_, ?_⟩
            · refine (cxb k12_4).use ?_
              rintro _ k12_20 ⟨rfl, bk12_20⟩
              have Bk12_20 : Bel g2.size g2 k12_20 := Bk12_4.trans (bk12_20.mono Bk12_4.size)
              have zk12_20 := bk12_20.size
              have xk12_4k12_20 := bk12_20.get (lt_of_get xk12_4) xk12_4
              obtain ⟨k12_21, ek12_21, bk12_21, zk12_21, xk12_21, Bk12_21⟩ := alloc_step Bk12_20
              have xk12_4k12_20k12_21 := bk12_21.get (lt_of_get xk12_4k12_20) xk12_4k12_20
              have qk12_22 : g2.size ≤ k12_20.size := by first | omega | (have := Bk12_21.size; omega)
              obtain ⟨k12_22, wk12_22, xk12_22, lk12_22, Bk12_22, ok12_22⟩ := store_step (l := xa) Bk12_21 xk12_21 qk12_22 lxa
              have xk12_4k12_20k12_21k12_22 := ok12_22 (k12_3.size) _ (by omega) xk12_4k12_20k12_21
              have qk12_23 : g2.size ≤ k12_3.size := by first | omega | (have := Bk12_22.size; omega)
              obtain ⟨k12_23, wk12_23, xk12_23, lk12_23, Bk12_23, ok12_23⟩ := store_step (l := xb) Bk12_22 xk12_4k12_20k12_21k12_22 qk12_23 lxb
              have xk12_22k12_23 := ok12_23 (k12_20.size) _ (by omega) xk12_22
              simp (config := {maxSteps := 2000000, implicitDefEqProofs := false}) only [go_sem, ↓reduceIte, Nat.reduceEqDiff, Nat.reduceAdd, Nat.reduceMul, Nat.reduceLeDiff, Nat.reduceLT, Nat.reduceSub, IntWalk.iteOmega, IntWalk.toNatUp, reduceCtorEq, false_and, and_false, false_or, or_false, true_or, or_true, not_true_eq_false, not_false_eq_true, Bool.not_true, Bool.not_false, Bool.and_true, Bool.true_and, Bool.and_false, Bool.false_and, Bool.not_eq_true, beq_self_eq_true, Nat.add_zero, Int.reduceLE, Int.reduceLT, Int.reduceToNat, Int.reduceNeg, ek12_21, Bk12_21, wk12_22, Bk12_22, lk12_22, wk12_23, Bk12_23, lk12_23, e7, rX2_12, tX2, vX2, yX2_12, e8, rZ2_12, tZ2, vZ2, yZ2_12, Bk12_20]
              refine ⟨Bk12_23, ⟨k12_20.size, k12_3.size, rfl, rfl, ?_, ?_, xk12_22k12_23, xk12_23⟩, fun t h1 h2 h3 => ?_⟩
              · omega
              · omega
              · simp only [updo, upd]
                repeat rw [if_neg (by omega)]
            · refine (cxb k12_5).use ?_
              rintro _ k12_24 ⟨rfl, bk12_24⟩
              have Bk12_24 : Bel g2.size g2 k12_24 := Bk12_5.trans (bk12_24.mono Bk12_5.size)
              have zk12_24 := bk12_24.size
              have xk12_4k12_5k12_24 := bk12_24.get (lt_of_get xk12_4k12_5) xk12_4k12_5
              have xk12_5k12_24 := bk12_24.get (lt_of_get xk12_5) xk12_5
              have qk12_25 : g2.size ≤ k12_4.size := by first | omega | (have := Bk12_24.size; omega)
              obtain ⟨k12_25, wk12_25, xk12_25, lk12_25, Bk12_25, ok12_25⟩ := store_step (l := xa) Bk12_24 xk12_5k12_24 qk12_25 lxa
              have xk12_4k12_5k12_24k12_25 := ok12_25 (k12_3.size) _ (by omega) xk12_4k12_5k12_24
              have qk12_26 : g2.size ≤ k12_3.size := by first | omega | (have := Bk12_25.size; omega)
              obtain ⟨k12_26, wk12_26, xk12_26, lk12_26, Bk12_26, ok12_26⟩ := store_step (l := xb) Bk12_25 xk12_4k12_5k12_24k12_25 qk12_26 lxb
              have xk12_25k12_26 := ok12_26 (k12_4.size) _ (by omega) xk12_25
              simp (config := {maxSteps := 2000000, implicitDefEqProofs := false}) only [go_sem, ↓reduceIte, Nat.reduceEqDiff, Nat.reduceAdd, Nat.reduceMul, Nat.reduceLeDiff, Nat.reduceLT, Nat.reduceSub, IntWalk.iteOmega, IntWalk.toNatUp, reduceCtorEq, false_and, and_false, false_or, or_false, true_or, or_true, not_true_eq_false, not_false_eq_true, Bool.not_true, Bool.not_false, Bool.and_true, Bool.true_and, Bool.and_false, Bool.false_and, Bool.not_eq_true, beq_self_eq_true, Nat.add_zero, Int.reduceLE, Int.reduceLT, Int.reduceToNat, Int.reduceNeg, wk12_25, Bk12_25, lk12_25, wk12_26, Bk12_26, lk12_26, e7, rX2_12, tX2, vX2, yX2_12, e8, rZ2_12, tZ2, vZ2, yZ2_12, Bk12_24]
              refine ⟨Bk12_26, ⟨k12_4.size, k12_3.size, rfl, rfl, ?_, ?_, xk12_25k12_26, xk12_26⟩, fun t h1 h2 h3 => ?_⟩
              · omega
              · omega
              · simp only [updo, upd]
                repeat rw [if_neg (by omega)]
      · refine ⟨?_, ?_⟩
        · refine ⟨?_, ?_⟩
          · refine (cxa k12_1).use ?_
            rintro _ k12_27 ⟨rfl, bk12_27⟩
            have Bk12_27 : Bel g2.size g2 k12_27 := Bk12_1.trans (bk12_27.mono Bk12_1.size)
            have zk12_27 := bk12_27.size
            have xk12_1k12_27 := bk12_27.get (lt_of_get xk12_1) xk12_1
            obtain ⟨k12_28, ek12_28, bk12_28, zk12_28, xk12_28, Bk12_28⟩ := alloc_step Bk12_27
            have xk12_1k12_27k12_28 := bk12_28.get (lt_of_get xk12_1k12_27) xk12_1k12_27
            simp (config := {maxSteps := 2000000, implicitDefEqProofs := false}) only [go_sem, ↓reduceIte, Nat.reduceEqDiff, Nat.reduceAdd, Nat.reduceMul, Nat.reduceLeDiff, Nat.reduceLT, Nat.reduceSub, IntWalk.iteOmega, IntWalk.toNatUp, reduceCtorEq, false_and, and_false, false_or, or_false, true_or, or_true, not_true_eq_false, not_false_eq_true, Bool.not_true, Bool.not_false, Bool.and_true, Bool.true_and, Bool.and_false, Bool.false_and, Bool.not_eq_true, beq_self_eq_true, Nat.add_zero, Int.reduceLE, Int.reduceLT, Int.reduceToNat, Int.reduceNeg, ek12_28, Bk12_28, e7, rX2_12, tX2, vX2, yX2_12, e8, rZ2_12, tZ2, vZ2, yZ2_12, Bk12_27]
            refine ⟨?_, ?_⟩
            · refine (cxb k12_27).use ?_
              rintro _ k12_29 ⟨rfl, bk12_29⟩
              have Bk12_29 : Bel g2.size g2 k12_29 := Bk12_27.trans (bk12_29.mono Bk12_27.size)
              have zk12_29 := bk12_29.size
              have xk12_1k12_27k12_29 := bk12_29.get (lt_of_get xk12_1k12_27) xk12_1k12_27
              obtain ⟨k12_30, ek12_30, bk12_30, zk12_30, xk12_30, Bk12_30⟩ := alloc_step Bk12_29
              have xk12_1k12_27k12_29k12_30 := bk12_30.get (lt_of_get xk12_1k12_27k12_29) xk12_1k12_27k12_29
              have qk12_31 : g2.size ≤ g2.size := by first | omega | (have := Bk12_30.size; omega)
              obtain ⟨k12_31, wk12_31, xk12_31, lk12_31, Bk12_31, ok12_31⟩ := store_step (l := xa) Bk12_30 xk12_1k12_27k12_29k12_30 qk12_31 lxa
              have xk12_30k12_31 := ok12_31 (k12_29.size) _ (by omega) xk12_30
              have qk12_32 : g2.size ≤ k12_29.size := by first | omega | (have := Bk12_31.size; omega)
              obtain ⟨k12_32, wk12_32, xk12_32, lk12_32, Bk12_32, ok12_32⟩ := store_step (l := xb) Bk12_31 xk12_30k12_31 qk12_32 lxb
              have xk12_31k12_32 := ok12_32 (g2.size) _ (by omega) xk12_31
              simp (config := {maxSteps := 2000000, implicitDefEqProofs := false}) only [go_sem, ↓reduceIte, Nat.reduceEqDiff, Nat.reduceAdd, Nat.reduceMul, Nat.reduceLeDiff, Nat.reduceLT, Nat.reduceSub, IntWalk.iteOmega, IntWalk.toNatUp, reduceCtorEq, false_and, and_false, false_or, or_false, true_or, or_true, not_true_eq_false, not_false_eq_true, Bool.not_true, Bool.not_false, Bool.and_true, Bool.true_and, Bool.and_false, Bool.false_and, Bool.not_eq_true, beq_self_eq_true, Nat.add_zero, Int.reduceLE, Int.reduceLT, Int.reduceToNat, Int.reduceNeg, ek12_30, Bk12_30, wk12_31, Bk12_31, lk12_31, wk12_32, Bk12_32, lk12_32, e7, rX2_12, tX2, vX2, yX2_12, e8, rZ2_12, tZ2, vZ2, yZ2_12, Bk12_29]
              refine ⟨Bk12_32, ⟨g2.size, k12_29.size, rfl, rfl, ?_, ?_, xk12_31k12_32, xk12_32⟩, fun t h1 h2 h3 => ?_⟩
              · omega
              · omega
              · simp only [updo, upd]
                repeat rw [if_neg (by omega)]
            · refine (cxb k12_28).use ?_
              rintro _ k12_33 ⟨rfl, bk12_33⟩
              have Bk12_33 : Bel g2.size g2 k12_33 := Bk12_28.trans (bk12_33.mono Bk12_28.size)
              have zk12_33 := bk12_33.size
              have xk12_1k12_27k12_28k12_33 := bk12_33.get (lt_of_get xk12_1k12_27k12_28) xk12_1k12_27k12_28
              have xk12_28k12_33 := bk12_33.get (lt_of_get xk12_28) xk12_28
              have qk12_34 : g2.size ≤ g2.size := by first | omega | (have := Bk12_33.size; omega)
              obtain ⟨k12_34, wk12_34, xk12_34, lk12_34, Bk12_34, ok12_34⟩ := store_step (l := xa) Bk12_33 xk12_1k12_27k12_28k12_33 qk12_34 lxa
              have xk12_28k12_33k12_34 := ok12_34 (k12_27.size) _ (by omega) xk12_28k12_33
              have qk12_35 : g2.size ≤ k12_27.size := by first | omega | (have := Bk12_34.size; omega)
              obtain ⟨k12_35, wk12_35, xk12_35, lk12_35, Bk12_35, ok12_35⟩ := store_step (l := xb) Bk12_34 xk12_28k12_33k12_34 qk12_35 lxb
              have xk12_34k12_35 := ok12_35 (g2.size) _ (by omega) xk12_34
              simp (config := {maxSteps := 2000000, implicitDefEqProofs := false}) only [go_sem, ↓reduceIte, Nat.reduceEqDiff, Nat.reduceAdd, Nat.reduceMul, Nat.reduceLeDiff, Nat.reduceLT, Nat.reduceSub, IntWalk.iteOmega, IntWalk.toNatUp, reduceCtorEq, false_and, and_false, false_or, or_false, true_or, or_true, not_true_eq_false, not_false_eq_true, Bool.not_true, Bool.not_false, Bool.and_true, Bool.true_and, Bool.and_false, Bool.false_and, Bool.not_eq_true, beq_self_eq_true, Nat.add_zero, Int.reduceLE, Int.reduceLT, Int.reduceToNat, Int.reduceNeg, wk12_34, Bk12_34, lk12_34, wk12_35, Bk12_35, lk12_35, e7, rX2_12, tX2, vX2, yX2_12, e8, rZ2_12, tZ2, vZ2, yZ2_12, Bk12_33]
              refine ⟨Bk12_35, ⟨g2.size, k12_27.size, rfl, rfl, ?_, ?_, xk12_34k12_35, xk12_35⟩, fun t h1 h2 h3 => ?_⟩
              · omega
              · omega
              · simp only [updo, upd]
                repeat rw [if_neg (by omega)]
          · refine (cxa k12_2).use ?_
            rintro _ k12_36 ⟨rfl, bk12_36⟩
            have Bk12_36 : Bel g2.size g2 k12_36 := Bk12_2.trans (bk12_36.mono Bk12_2.size)
            have zk12_36 := bk12_36.size
            have xk12_1k12_2k12_36 := bk12_36.get (lt_of_get xk12_1k12_2) xk12_1k12_2
            have xk12_2k12_36 := bk12_36.get (lt_of_get xk12_2) xk12_2
            simp (config := {maxSteps := 2000000, implicitDefEqProofs := false}) only [go_sem, ↓reduceIte, Nat.reduceEqDiff, Nat.reduceAdd, Nat.reduceMul, Nat.reduceLeDiff, Nat.reduceLT, Nat.reduceSub, IntWalk.iteOmega, IntWalk.toNatUp, reduceCtorEq, false_and, and_false, false_or, or_false, true_or, or_true, not_true_eq_false, not_false_eq_true, Bool.not_true, Bool.not_false, Bool.and_true, Bool.true_and, Bool.and_false, Bool.false_and, Bool.not_eq_true, beq_self_eq_true, Nat.add_zero, Int.reduceLE, Int.reduceLT, Int.reduceToNat, Int.reduceNeg, e7, rX2_12, tX2, vX2, yX2_12, e8, rZ2_12, tZ2, vZ2, yZ2_12, Bk12_36]
            refine (cxb k12_36).use ?_
            rintro _ k12_37 ⟨rfl, bk12_37⟩
            have Bk12_37 : Bel g2.size g2 k12_37 := Bk12_36.trans (bk12_37.mono Bk12_36.size)
            have zk12_37 := bk12_37.size
            have xk12_1k12_2k12_36k12_37 := bk12_37.get (lt_of_get xk12_1k12_2k12_36) xk12_1k12_2k12_36
            have xk12_2k12_36k12_37 := bk12_37.get (lt_of_get xk12_2k12_36) xk12_2k12_36
            have qk12_38 : g2.size ≤ g2.size := by first | omega | (have := Bk12_37.size; omega)
            obtain ⟨k12_38, wk12_38, xk12_38, lk12_38, Bk12_38, ok12_38⟩ := store_step (l := xa) Bk12_37 xk12_1k12_2k12_36k12_37 qk12_38 lxa
            have xk12_2k12_36k12_37k12_38 := ok12_38 (k12_1.size) _ (by omega) xk12_2k12_36k12_37
            have qk12_39 : g2.size ≤ k12_1.size := by first | omega | (have := Bk12_38.size; omega)
            obtain ⟨k12_39, wk12_39, xk12_39, lk12_39, Bk12_39, ok12_39⟩ := store_step (l := xb) Bk12_38 xk12_2k12_36k12_37k12_38 qk12_39 lxb
            have xk12_38k12_39 := ok12_39 (g2.size) _ (by omega) xk12_38
            simp (config := {maxSteps := 2000000, implicitDefEqProofs := false}) only [go_sem, ↓reduceIte, Nat.reduceEqDiff, Nat.reduceAdd, Nat.reduceMul, Nat.reduceLeDiff, Nat.reduceLT, Nat.reduceSub, IntWalk.iteOmega, IntWalk.toNatUp, reduceCtorEq, false_and, and_false, false_or, or_false, true_or, or_true, not_true_eq_false, not_false_eq_true, Bool.not_true, Bool.not_false, Bool.and_true, Bool.true_and, Bool.and_false, Bool.false_and, Bool.not_eq_true, beq_self_eq_true, Nat.add_zero, Int.reduceLE, Int.reduceLT, Int.reduceToNat, Int.reduceNeg, wk12_38, Bk12_38, lk12_38, wk12_39, Bk12_39, lk12_39, e7, rX2_12, tX2, vX2, yX2_12, e8, rZ2_12, tZ2, vZ2, yZ2_12, Bk12_37]
            refine ⟨Bk12_39, ⟨g2.size, k12_1.size, rfl, rfl, ?_, ?_, xk12_38k12_39, xk12_39⟩, fun t h1 h2 h3 => ?_⟩
            · omega
            · omega
            · simp only [updo, upd]
              repeat rw [if_neg (by omega)]
        · refine ⟨?_, ?_⟩
          · refine (cxa k12_1).use ?_
            rintro _ k12_40 ⟨rfl, bk12_40⟩
            have Bk12_40 : Bel g2.size g2 k12_40 := Bk12_1.trans (bk12_40.mono Bk12_1.size)
            have zk12_40 := bk12_40.size
            have xk12_1k12_40 := bk12_40.get (lt_of_get xk12_1) xk12_1
            obtain ⟨k12_41, ek12_41, bk12_41, zk12_41, xk12_41, Bk12_41⟩ := alloc_step Bk12_40
            have xk12_1k12_40k12_41 := bk12_41.get (lt_of_get xk12_1k12_40) xk12_1k12_40
            simp (config := {maxSteps := 2000000, implicitDefEqProofs := false}) only [go_sem, ↓reduceIte, Nat.reduceEqDiff, Nat.reduceAdd, Nat.reduceMul, Nat.reduceLeDiff, Nat.reduceLT, Nat.reduceSub, IntWalk.iteOmega, IntWalk.toNatUp, reduceCtorEq, false_and, and_false, false_or, or_false, true_or, or_true, not_true_eq_false, not_false_eq_true, Bool.not_true, Bool.not_false, Bool.and_true, Bool.true_and, Bool.and_false, Bool.false_and, Bool.not_eq_true, beq_self_eq_true, Nat.add_zero, Int.reduceLE, Int.reduceLT, Int.reduceToNat, Int.reduceNeg, ek12_41, Bk12_41, e7, rX2_12, tX2, vX2, yX2_12, e8, rZ2_12, tZ2, vZ2, yZ2_12, Bk12_40]
            refine ⟨?_, ?_⟩
            · refine (cxb k12_40).use ?_
              rintro _ k12_42 ⟨rfl, bk12_42⟩
              have Bk12_42 : Bel g2.size g2 k12_42 := Bk12_40.trans (bk12_42.mono Bk12_40.size)
              have zk12_42 := bk12_42.size
              have xk12_1k12_40k12_42 := bk12_42.get (lt_of_get xk12_1k12_40) xk12_1k12_40
              obtain ⟨k12_43, ek12_43, bk12_43, zk12_43, xk12_43, Bk12_43⟩ := alloc_step Bk12_42
              have xk12_1k12_40k12_42k12_43 := bk12_43.get (lt_of_get xk12_1k12_40k12_42) xk12_1k12_40k12_42
              have qk12_44 : g2.size ≤ k12_42.size := by first | omega | (have := Bk12_43.size; omega)
              obtain ⟨k12_44, wk12_44, xk12_44, lk12_44, Bk12_44, ok12_44⟩ := store_step (l := xa) Bk12_43 xk12_43 qk12_44 lxa
              have xk12_1k12_40k12_42k12_43k12_44 := ok12_44 (g2.size) _ (by omega) xk12_1k12_40k12_42k12_43
              have qk12_45 : g2.size ≤ g2.size := by first | omega | (have := Bk12_44.size; omega)
              obtain ⟨k12_45, wk12_45, xk12_45, lk12_45, Bk12_45, ok12_45⟩ := store_step (l := xb) Bk12_44 xk12_1k12_40k12_42k12_43k12_44 qk12_45 lxb
              have xk12_44k12_45 := ok12_45 (k12_42.size) _ (by omega) xk12_44
              simp (config := {maxSteps := 2000000, implicitDefEqProofs := false}) only [go_sem, ↓reduceIte, Nat.reduceEqDiff, Nat.reduceAdd, Nat.reduceMul, Nat.reduceLeDiff, Nat.reduceLT, Nat.reduceSub, IntWalk.iteOmega, IntWalk.toNatUp, reduceCtorEq, false_and, and_false, false_or, or_false, true_or, or_true, not_true_eq_false, not_false_eq_true, Bool.not_true, Bool.not_false, Bool.and_true, Bool.true_and, Bool.and_false, Bool.false_and, Bool.not_eq_true, beq_self_eq_true, Nat.add_zero, Int.reduceLE, Int.reduceLT, Int.reduceToNat, Int.reduceNeg, ek12_43, Bk12_43, wk12_44, Bk12_44, lk12_44, wk12_45, Bk12_45, lk12_45, e7, rX2_12, tX2, vX2, yX2_12, e8, rZ2_12, tZ2, vZ2, yZ2_12, Bk12_42]
              refine ⟨Bk12_45, ⟨k12_42.size, g2.size, rfl, rfl, ?_, ?_, xk12_44k12_45, xk12_45⟩, fun t h1 h2 h3 => ?_⟩
              · omega
              · omega
              · simp only [updo, upd]
                repeat rw [if_neg (by omega)]
            · refine (cxb k12_41).use ?_
              rintro _ k12_46 ⟨rfl, bk12_46⟩
              have Bk12_46 : Bel g2.size g2 k12_46 := Bk12_41.trans (bk12_46.mono Bk12_41.size)
              have zk12_46 := bk12_46.size
              have xk12_1k12_40k12_41k12_46 := bk12_46.get (lt_of_get xk12_1k12_40k12_41) xk12_1k12_40k12_41
              have xk12_41k12_46 := bk12_46.get (lt_of_get xk12_41) xk12_41
              have qk12_47 : g2.size ≤ k12_40.size := by first | omega | (have := Bk12_46.size; omega)
              obtain ⟨k12_47, wk12_47, xk12_47, lk12_47, Bk12_47, ok12_47⟩ := store_step (l := xa) Bk12_46 xk12_41k12_46 qk12_47 lxa
              have xk12_1k12_40k12_41k12_46k12_47 := ok12_47 (g2.size) _ (by omega) xk12_1k12_40k12_41k12_46
              have qk12_48 : g2.size ≤ g2.size := by first | omega | (have := Bk12_47.size; omega)
              obtain ⟨k12_48, wk12_48, xk12_48, lk12_48, Bk12_48, ok12_48⟩ := store_step (l := xb) Bk12_47 xk12_1k12_40k12_41k12_46k12_47 qk12_48 lxb
              have xk12_47k12_48 := ok12_48 (k12_40.size) _ (by omega) xk12_47
              simp (config := {maxSteps := 2000000, implicitDefEqProofs := false}) only [go_sem, ↓reduceIte, Nat.reduceEqDiff, Nat.reduceAdd, Nat.reduceMul, Nat.reduceLeDiff, Nat.reduceLT, Nat.reduceSub, IntWalk.iteOmega, IntWalk.toNatUp, reduceCtorEq, false_and, and_false, false_or, or_false, true_or, or_true, not_true_eq_false, not_false_eq_true, Bool.not_true, Bool.not_false, Bool.and_true, Bool.true_and, Bool.and_false, Bool.false_and, Bool.not_eq_true, beq_self_eq_true, Nat.add_zero, Int.reduceLE, Int.reduceLT, Int.reduceToNat, Int.reduceNeg, wk12_47, Bk12_47, lk12_47, wk12_48, Bk12_48, lk12_48, e7, rX2_12, tX2, vX2, yX2_12, e8, rZ2_12, tZ2, vZ2, yZ2_12, Bk12_46]
              refine ⟨Bk12_48, ⟨k12_40.size, g2.size, rfl, rfl, ?_, ?_, xk12_47k12_48, xk12_48⟩, fun t h1 h2 h3 => ?_⟩
              · omega
              · omega
              · simp only [updo, upd]
                repeat rw [if_neg (by omega)]
          · refine (cxa k12_2).use ?_
            rintro _ k12_49 ⟨rfl, bk12_49⟩
            have Bk12_49 : Bel g2.size g2 k12_49 := Bk12_2.trans (bk12_49.mono Bk12_2.size)
            have zk12_49 := bk12_49.size
            have xk12_1k12_2k12_49 := bk12_49.get (lt_of_get xk12_1k12_2) xk12_1k12_2
            have xk12_2k12_49 := bk12_49.get (lt_of_get xk12_2) xk12_2
            simp (config := {maxSteps := 2000000, implicitDefEqProofs := false}) only [go_sem, ↓reduceIte, Nat.reduceEqDiff, Nat.reduceAdd, Nat.reduceMul, Nat.reduceLeDiff, Nat.reduceLT, Nat.reduceSub, IntWalk.iteOmega, IntWalk.toNatUp, reduceCtorEq, false_and, and_false, false_or, or_false, true_or, or_true, not_true_eq_false, not_false_eq_true, Bool.not_true, Bool.not_false, Bool.and_true, Bool.true_and, Bool.and_false, Bool.false_and, Bool.not_eq_true, beq_self_eq_true, Nat.add_zero, Int.reduceLE, Int.reduceLT, Int.reduceToNat, Int.reduceNeg, e7, rX2_12, tX2, vX2, yX2_12, e8, rZ2_12, tZ2, vZ2, yZ2_12, Bk12_49]
            refine (cxb k12_49).use ?_
            rintro _ k12_50 ⟨rfl, bk12_50⟩
            have Bk12_50 : Bel g2.size g2 k12_50 := Bk12_49.trans (bk12_50.mono Bk12_49.size)
            have zk12_50 := bk12_50.size
            have xk12_1k12_2k12_49k12_50 := bk12_50.get (lt_of_get xk12_1k12_2k12_49) xk12_1k12_2k12_49
            have xk12_2k12_49k12_50 := bk12_50.get (lt_of_get xk12_2k12_49) xk12_2k12_49
            have qk12_51 : g2.size ≤ k12_1.size := by first | omega | (have := Bk12_50.size; omega)
            obtain ⟨k12_51, wk12_51, xk12_51, lk12_51, Bk12_51, ok12_51⟩ := store_step (l := xa) Bk12_50 xk12_2k12_49k12_50 qk12_51 lxa
            have xk12_1k12_2k12_49k12_50k12_51 := ok12_51 (g2.size) _ (by omega) xk12_1k12_2k12_49k12_50
            have qk12_52 : g2.size ≤ g2.size := by first | omega | (have := Bk12_51.size; omega)
            obtain ⟨k12_52, wk12_52, xk12_52, lk12_52, Bk12_52, ok12_52⟩ := store_step (l := xb) Bk12_51 xk12_1k12_2k12_49k12_50k12_51 qk12_52 lxb
            have xk12_51k12_52 := ok12_52 (k12_1.size) _ (by omega) xk12_51
            simp (config := {maxSteps := 2000000, implicitDefEqProofs := false}) only [go_sem, ↓reduceIte, Nat.reduceEqDiff, Nat.reduceAdd, Nat.reduceMul, Nat.reduceLeDiff, Nat.reduceLT, Nat.reduceSub, IntWalk.iteOmega, IntWalk.toNatUp, reduceCtorEq, false_and, and_false, false_or, or_false, true_or, or_true, not_true_eq_false, not_false_eq_true, Bool.not_true, Bool.not_false, Bool.and_true, Bool.true_and, Bool.and_false, Bool.false_and, Bool.not_eq_true, beq_self_eq_true, Nat.add_zero, Int.reduceLE, Int.reduceLT, Int.reduceToNat, Int.reduceNeg, wk12_51, Bk12_51, lk12_51, wk12_52, Bk12_52, lk12_52, e7, rX2_12, tX2, vX2, yX2_12, e8, rZ2_12, tZ2, vZ2, yZ2_12, Bk12_50]
            refine ⟨Bk12_52, ⟨k12_1.size, g2.size, rfl, rfl, ?_, ?_, xk12_51k12_52, xk12_52⟩, fun t h1 h2 h3 => ?_⟩
            · omega
            · omega
            · simp only [updo, upd]
              repeat rw [if_neg (by omega)]
    · rintro E_12 g_12 ⟨hR12, ⟨V13, V14, n13, n14, h13, h14, x13, x14⟩, keep12⟩
      have e5_12 := (keep12 5 (by omega) (by omega) (by omega)).trans e5
      have e6_12 := (keep12 6 (by omega) (by omega) (by omega)).trans e6
      have e7_12 := (keep12 7 (by omega) (by omega) (by omega)).trans e7
      have e8_12 := (keep12 8 (by omega) (by omega) (by omega)).trans e8
      have e9_12 := (keep12 9 (by omega) (by omega) (by omega)).trans e9
      have e10_12 := (keep12 10 (by omega) (by omega) (by omega)).trans e10
      have e11_12 := (keep12 11 (by omega) (by omega) (by omega)).trans e11
      have e12_12 := (keep12 12 (by omega) (by omega) (by omega)).trans e12
      have zA_12 := hR12.get (lt_of_get zA) zA
      have zB_12 := hR12.get (lt_of_get zB) zB
      have zC_12 := hR12.get (lt_of_get zC) zC
      have zD_12 := hR12.get (lt_of_get zD) zD
      have zUu_12 := hR12.get (lt_of_get zUu) zUu
      have zk2_12 := hR12.get (lt_of_get zk2) zk2
      have B_12 := hB2.trans (hR12.mono hB2.size)
      simp (config := {maxSteps := 2000000, implicitDefEqProofs := false}) only [go_sem, ↓reduceIte, Nat.reduceEqDiff, Nat.reduceAdd, Nat.reduceMul, Nat.reduceLeDiff, Nat.reduceLT, Nat.reduceSub, IntWalk.iteOmega, IntWalk.toNatUp, reduceCtorEq, false_and, and_false, false_or, or_false, true_or, or_true, not_true_eq_false, not_false_eq_true, Bool.not_true, Bool.not_false, Bool.and_true, Bool.true_and, Bool.and_false, Bool.false_and, Bool.not_eq_true, beq_self_eq_true, Nat.add_zero, Int.reduceLE, Int.reduceLT, Int.reduceToNat, Int.reduceNeg]
      obtain ⟨xc, hxc⟩ : ∃ l, l = fplus X3 Z3 := ⟨_, rfl⟩
      have lxc : xc.length = 16 := by rw [hxc]; unfold fplus; rw [fpl_length]; exact lX3
      have wxc : InK 131148 xc := by rw [hxc]; exact (fplus_in (by omega) (by omega) wX3 wZ3).mono (by omega)
      have cxc : ∀ G, CallsH Try.prog T 40 #[.agg (X3.map sv).toArray, .agg (Z3.map sv).toArray] G fun v' h' => v' = .agg (xc.map sv).toArray ∧ Bel G.size G h' := fun G => by rw [hxc]; exact fldPlus_ok T G X3 Z3 lX3 lZ3 (wX3.mono (by omega)) (wZ3.mono (by omega))
      have txc : (xc.map sv).take 16 = xc.map sv := List.take_of_length_le (by simp [lxc])
      have vxc : (xc.map sv).length = 16 := by simp [lxc]
      obtain ⟨xd, hxd⟩ : ∃ l, l = fminus X3 Z3 := ⟨_, rfl⟩
      have lxd : xd.length = 16 := by rw [hxd]; unfold fminus; rw [fpl_length]; exact lX3
      have wxd : InK 131148 xd := by rw [hxd]; exact (fminus_in (by omega) (by omega) wX3 wZ3).mono (by omega)
      have cxd : ∀ G, CallsH Try.prog T 41 #[.agg (X3.map sv).toArray, .agg (Z3.map sv).toArray] G fun v' h' => v' = .agg (xd.map sv).toArray ∧ Bel G.size G h' := fun G => by rw [hxd]; exact fldMinus_ok T G X3 Z3 lX3 lZ3 (wX3.mono (by omega)) (wZ3.mono (by omega))
      have txd : (xd.map sv).take 16 = xd.map sv := List.take_of_length_le (by simp [lxd])
      have vxd : (xd.map sv).length = 16 := by simp [lxd]
      have rX3_13 := rd_fld lX3 zC_12
      have yX3_13 := lt_of_get zC_12
      have rZ3_13 := rd_fld lZ3 zD_12
      have yZ3_13 := lt_of_get zD_12
      refine VS.mono (N := RegN g_12 15 16 xc xd E_12) ?_ ?_ (fun _ _ _ h => h) (fun _ _ h => h)
      · refine VS.w (g_12.size) [5, 8, 9] (.q 0 (.q 1 (.q 3 (.q 4 (.or 2 (.or 5 (.or 6 (.s 7 (.w 8 (.w 9 .nil))) (.s 7 (.s 6 (.w 8 (.w 9 .nil))))) (.or 6 (.or 5 (.s 7 (.w 8 (.w 9 .nil))) (.s 7 (.w 5 (.w 8 (.w 9 .nil))))) (.s 7 (.or 5 (.s 6 (.w 8 (.w 9 .nil))) (.s 6 (.w 5 (.w 8 (.w 9 .nil)))))))) (.or 6 (.or 2 (.or 5 (.s 7 (.w 8 (.w 9 .nil))) (.s 7 (.w 5 (.w 8 (.w 9 .nil))))) (.s 7 (.s 2 (.w 5 (.w 8 (.w 9 .nil)))))) (.s 7 (.or 2 (.or 5 (.s 6 (.w 8 (.w 9 .nil))) (.s 6 (.w 5 (.w 8 (.w 9 .nil))))) (.s 6 (.s 2 (.w 5 (.w 8 (.w 9 .nil))))))))))))) mixed (by kernel_rfl) ?_
        obtain ⟨k13_1, ek13_1, bk13_1, zk13_1, xk13_1, Bk13_1⟩ := alloc_step (Bel.refl g_12.size g_12)
        obtain ⟨k13_2, ek13_2, bk13_2, zk13_2, xk13_2, Bk13_2⟩ := alloc_step Bk13_1
        have xk13_1k13_2 := bk13_2.get (lt_of_get xk13_1) xk13_1
        simp (config := {maxSteps := 2000000, implicitDefEqProofs := false}) only [go_sem, ↓reduceIte, Nat.reduceEqDiff, Nat.reduceAdd, Nat.reduceMul, Nat.reduceLeDiff, Nat.reduceLT, Nat.reduceSub, IntWalk.iteOmega, IntWalk.toNatUp, reduceCtorEq, false_and, and_false, false_or, or_false, true_or, or_true, not_true_eq_false, not_false_eq_true, Bool.not_true, Bool.not_false, Bool.and_true, Bool.true_and, Bool.and_false, Bool.false_and, Bool.not_eq_true, beq_self_eq_true, Nat.add_zero, Int.reduceLE, Int.reduceLT, Int.reduceToNat, Int.reduceNeg, ek13_1, Bk13_1, ek13_2, Bk13_2, e9_12, rX3_13, tX3, vX3, yX3_13, e10_12, rZ3_13, tZ3, vZ3, yZ3_13]
        refine ⟨?_, ?_⟩
        · refine (cxc g_12).use ?_
          rintro _ k13_3 ⟨rfl, bk13_3⟩
          have Bk13_3 : Bel g_12.size g_12 k13_3 := (Bel.refl g_12.size g_12).trans (bk13_3.mono (Bel.refl g_12.size g_12).size)
          have zk13_3 := bk13_3.size
          obtain ⟨k13_4, ek13_4, bk13_4, zk13_4, xk13_4, Bk13_4⟩ := alloc_step Bk13_3
          obtain ⟨k13_5, ek13_5, bk13_5, zk13_5, xk13_5, Bk13_5⟩ := alloc_step Bk13_4
          have xk13_4k13_5 := bk13_5.get (lt_of_get xk13_4) xk13_4
          simp (config := {maxSteps := 2000000, implicitDefEqProofs := false}) only [go_sem, ↓reduceIte, Nat.reduceEqDiff, Nat.reduceAdd, Nat.reduceMul, Nat.reduceLeDiff, Nat.reduceLT, Nat.reduceSub, IntWalk.iteOmega, IntWalk.toNatUp, reduceCtorEq, false_and, and_false, false_or, or_false, true_or, or_true, not_true_eq_false, not_false_eq_true, Bool.not_true, Bool.not_false, Bool.and_true, Bool.true_and, Bool.and_false, Bool.false_and, Bool.not_eq_true, beq_self_eq_true, Nat.add_zero, Int.reduceLE, Int.reduceLT, Int.reduceToNat, Int.reduceNeg, ek13_4, Bk13_4, ek13_5, Bk13_5, e9_12, rX3_13, tX3, vX3, yX3_13, e10_12, rZ3_13, tZ3, vZ3, yZ3_13, Bk13_3]
          refine ⟨?_, ?_⟩
          · refine (cxd k13_3).use ?_
            rintro _ k13_6 ⟨rfl, bk13_6⟩
            have Bk13_6 : Bel g_12.size g_12 k13_6 := Bk13_3.trans (bk13_6.mono Bk13_3.size)
            have zk13_6 := bk13_6.size
            obtain ⟨k13_7, ek13_7, bk13_7, zk13_7, xk13_7, Bk13_7⟩ := alloc_step Bk13_6
            obtain ⟨k13_8, ek13_8, bk13_8, zk13_8, xk13_8, Bk13_8⟩ := alloc_step Bk13_7
            have xk13_7k13_8 := bk13_8.get (lt_of_get xk13_7) xk13_7
            have qk13_9 : g_12.size ≤ k13_7.size := by first | omega | (have := Bk13_8.size; omega)
            obtain ⟨k13_9, wk13_9, xk13_9, lk13_9, Bk13_9, ok13_9⟩ := store_step (l := xc) Bk13_8 xk13_8 qk13_9 lxc
            have xk13_7k13_8k13_9 := ok13_9 (k13_6.size) _ (by omega) xk13_7k13_8
            have qk13_10 : g_12.size ≤ k13_6.size := by first | omega | (have := Bk13_9.size; omega)
            obtain ⟨k13_10, wk13_10, xk13_10, lk13_10, Bk13_10, ok13_10⟩ := store_step (l := xd) Bk13_9 xk13_7k13_8k13_9 qk13_10 lxd
            have xk13_9k13_10 := ok13_10 (k13_7.size) _ (by omega) xk13_9
            have qk13_11 : g_12.size ≤ k13_6.size := by first | omega | (have := Bk13_8.size; omega)
            obtain ⟨k13_11, wk13_11, xk13_11, lk13_11, Bk13_11, ok13_11⟩ := store_step (l := xc) Bk13_8 xk13_7k13_8 qk13_11 lxc
            have xk13_8k13_11 := ok13_11 (k13_7.size) _ (by omega) xk13_8
            have qk13_12 : g_12.size ≤ k13_7.size := by first | omega | (have := Bk13_11.size; omega)
            obtain ⟨k13_12, wk13_12, xk13_12, lk13_12, Bk13_12, ok13_12⟩ := store_step (l := xd) Bk13_11 xk13_8k13_11 qk13_12 lxd
            have xk13_11k13_12 := ok13_12 (k13_6.size) _ (by omega) xk13_11
            simp (config := {maxSteps := 2000000, implicitDefEqProofs := false}) only [go_sem, ↓reduceIte, Nat.reduceEqDiff, Nat.reduceAdd, Nat.reduceMul, Nat.reduceLeDiff, Nat.reduceLT, Nat.reduceSub, IntWalk.iteOmega, IntWalk.toNatUp, reduceCtorEq, false_and, and_false, false_or, or_false, true_or, or_true, not_true_eq_false, not_false_eq_true, Bool.not_true, Bool.not_false, Bool.and_true, Bool.true_and, Bool.and_false, Bool.false_and, Bool.not_eq_true, beq_self_eq_true, Nat.add_zero, Int.reduceLE, Int.reduceLT, Int.reduceToNat, Int.reduceNeg, ek13_7, Bk13_7, ek13_8, Bk13_8, wk13_9, Bk13_9, lk13_9, wk13_10, Bk13_10, lk13_10, wk13_11, Bk13_11, lk13_11, wk13_12, Bk13_12, lk13_12, e9_12, rX3_13, tX3, vX3, yX3_13, e10_12, rZ3_13, tZ3, vZ3, yZ3_13, Bk13_6]
            refine ⟨?_, ?_⟩
            · refine ⟨Bk13_12, ⟨k13_6.size, k13_7.size, rfl, rfl, ?_, ?_, xk13_11k13_12, xk13_12⟩, fun t h1 h2 h3 => ?_⟩
              · omega
              · omega
              · simp only [updo, upd]
                repeat rw [if_neg (by omega)]
            · refine ⟨Bk13_10, ⟨k13_7.size, k13_6.size, rfl, rfl, ?_, ?_, xk13_9k13_10, xk13_10⟩, fun t h1 h2 h3 => ?_⟩
              · omega
              · omega
              · simp only [updo, upd]
                repeat rw [if_neg (by omega)]
          · refine ⟨?_, ?_⟩
            · refine ⟨?_, ?_⟩
              · refine (cxd k13_4).use ?_
                rintro _ k13_13 ⟨rfl, bk13_13⟩
                have Bk13_13 : Bel g_12.size g_12 k13_13 := Bk13_4.trans (bk13_13.mono Bk13_4.size)
                have zk13_13 := bk13_13.size
                have xk13_4k13_13 := bk13_13.get (lt_of_get xk13_4) xk13_4
                obtain ⟨k13_14, ek13_14, bk13_14, zk13_14, xk13_14, Bk13_14⟩ := alloc_step Bk13_13
                have xk13_4k13_13k13_14 := bk13_14.get (lt_of_get xk13_4k13_13) xk13_4k13_13
                have qk13_15 : g_12.size ≤ k13_3.size := by first | omega | (have := Bk13_14.size; omega)
                obtain ⟨k13_15, wk13_15, xk13_15, lk13_15, Bk13_15, ok13_15⟩ := store_step (l := xc) Bk13_14 xk13_4k13_13k13_14 qk13_15 lxc
                have xk13_14k13_15 := ok13_15 (k13_13.size) _ (by omega) xk13_14
                have qk13_16 : g_12.size ≤ k13_13.size := by first | omega | (have := Bk13_15.size; omega)
                obtain ⟨k13_16, wk13_16, xk13_16, lk13_16, Bk13_16, ok13_16⟩ := store_step (l := xd) Bk13_15 xk13_14k13_15 qk13_16 lxd
                have xk13_15k13_16 := ok13_16 (k13_3.size) _ (by omega) xk13_15
                simp (config := {maxSteps := 2000000, implicitDefEqProofs := false}) only [go_sem, ↓reduceIte, Nat.reduceEqDiff, Nat.reduceAdd, Nat.reduceMul, Nat.reduceLeDiff, Nat.reduceLT, Nat.reduceSub, IntWalk.iteOmega, IntWalk.toNatUp, reduceCtorEq, false_and, and_false, false_or, or_false, true_or, or_true, not_true_eq_false, not_false_eq_true, Bool.not_true, Bool.not_false, Bool.and_true, Bool.true_and, Bool.and_false, Bool.false_and, Bool.not_eq_true, beq_self_eq_true, Nat.add_zero, Int.reduceLE, Int.reduceLT, Int.reduceToNat, Int.reduceNeg, ek13_14, Bk13_14, wk13_15, Bk13_15, lk13_15, wk13_16, Bk13_16, lk13_16, e9_12, rX3_13, tX3, vX3, yX3_13, e10_12, rZ3_13, tZ3, vZ3, yZ3_13, Bk13_13]
                refine ⟨Bk13_16, ⟨k13_3.size, k13_13.size, rfl, rfl, ?_, ?_, xk13_15k13_16, xk13_16⟩, fun t h1 h2 h3 => ?_⟩
                · omega
                · omega
                · simp only [updo, upd]
                  repeat rw [if_neg (by omega)]
              · refine (cxd k13_5).use ?_
                rintro _ k13_17 ⟨rfl, bk13_17⟩
                have Bk13_17 : Bel g_12.size g_12 k13_17 := Bk13_5.trans (bk13_17.mono Bk13_5.size)
                have zk13_17 := bk13_17.size
                have xk13_4k13_5k13_17 := bk13_17.get (lt_of_get xk13_4k13_5) xk13_4k13_5
                have xk13_5k13_17 := bk13_17.get (lt_of_get xk13_5) xk13_5
                have qk13_18 : g_12.size ≤ k13_3.size := by first | omega | (have := Bk13_17.size; omega)
                obtain ⟨k13_18, wk13_18, xk13_18, lk13_18, Bk13_18, ok13_18⟩ := store_step (l := xc) Bk13_17 xk13_4k13_5k13_17 qk13_18 lxc
                have xk13_5k13_17k13_18 := ok13_18 (k13_4.size) _ (by omega) xk13_5k13_17
                have qk13_19 : g_12.size ≤ k13_4.size := by first | omega | (have := Bk13_18.size; omega)
                obtain ⟨k13_19, wk13_19, xk13_19, lk13_19, Bk13_19, ok13_19⟩ := store_step (l := xd) Bk13_18 xk13_5k13_17k13_18 qk13_19 lxd
                have xk13_18k13_19 := ok13_19 (k13_3.size) _ (by omega) xk13_18
                simp (config := {maxSteps := 2000000, implicitDefEqProofs := false}) only [go_sem, ↓reduceIte, Nat.reduceEqDiff, Nat.reduceAdd, Nat.reduceMul, Nat.reduceLeDiff, Nat.reduceLT, Nat.reduceSub, IntWalk.iteOmega, IntWalk.toNatUp, reduceCtorEq, false_and, and_false, false_or, or_false, true_or, or_true, not_true_eq_false, not_false_eq_true, Bool.not_true, Bool.not_false, Bool.and_true, Bool.true_and, Bool.and_false, Bool.false_and, Bool.not_eq_true, beq_self_eq_true, Nat.add_zero, Int.reduceLE, Int.reduceLT, Int.reduceToNat, Int.reduceNeg, wk13_18, Bk13_18, lk13_18, wk13_19, Bk13_19, lk13_19, e9_12, rX3_13, tX3, vX3, yX3_13, e10_12, rZ3_13, tZ3, vZ3, yZ3_13, Bk13_17]
                refine ⟨Bk13_19, ⟨k13_3.size, k13_4.size, rfl, rfl, ?_, ?_, xk13_18k13_19, xk13_19⟩, fun t h1 h2 h3 => ?_⟩
                · omega
                · omega
                · simp only [updo, upd]
                  repeat rw [if_neg (by omega)]
            · refine ⟨?_, ?_⟩
              · refine (cxd k13_4).use ?_
                rintro _ k13_20 ⟨rfl, bk13_20⟩
                have Bk13_20 : Bel g_12.size g_12 k13_20 := Bk13_4.trans (bk13_20.mono Bk13_4.size)
                have zk13_20 := bk13_20.size
                have xk13_4k13_20 := bk13_20.get (lt_of_get xk13_4) xk13_4
                obtain ⟨k13_21, ek13_21, bk13_21, zk13_21, xk13_21, Bk13_21⟩ := alloc_step Bk13_20
                have xk13_4k13_20k13_21 := bk13_21.get (lt_of_get xk13_4k13_20) xk13_4k13_20
                have qk13_22 : g_12.size ≤ k13_20.size := by first | omega | (have := Bk13_21.size; omega)
                obtain ⟨k13_22, wk13_22, xk13_22, lk13_22, Bk13_22, ok13_22⟩ := store_step (l := xc) Bk13_21 xk13_21 qk13_22 lxc
                have xk13_4k13_20k13_21k13_22 := ok13_22 (k13_3.size) _ (by omega) xk13_4k13_20k13_21
                have qk13_23 : g_12.size ≤ k13_3.size := by first | omega | (have := Bk13_22.size; omega)
                obtain ⟨k13_23, wk13_23, xk13_23, lk13_23, Bk13_23, ok13_23⟩ := store_step (l := xd) Bk13_22 xk13_4k13_20k13_21k13_22 qk13_23 lxd
                have xk13_22k13_23 := ok13_23 (k13_20.size) _ (by omega) xk13_22
                simp (config := {maxSteps := 2000000, implicitDefEqProofs := false}) only [go_sem, ↓reduceIte, Nat.reduceEqDiff, Nat.reduceAdd, Nat.reduceMul, Nat.reduceLeDiff, Nat.reduceLT, Nat.reduceSub, IntWalk.iteOmega, IntWalk.toNatUp, reduceCtorEq, false_and, and_false, false_or, or_false, true_or, or_true, not_true_eq_false, not_false_eq_true, Bool.not_true, Bool.not_false, Bool.and_true, Bool.true_and, Bool.and_false, Bool.false_and, Bool.not_eq_true, beq_self_eq_true, Nat.add_zero, Int.reduceLE, Int.reduceLT, Int.reduceToNat, Int.reduceNeg, ek13_21, Bk13_21, wk13_22, Bk13_22, lk13_22, wk13_23, Bk13_23, lk13_23, e9_12, rX3_13, tX3, vX3, yX3_13, e10_12, rZ3_13, tZ3, vZ3, yZ3_13, Bk13_20]
                refine ⟨Bk13_23, ⟨k13_20.size, k13_3.size, rfl, rfl, ?_, ?_, xk13_22k13_23, xk13_23⟩, fun t h1 h2 h3 => ?_⟩
                · omega
                · omega
                · simp only [updo, upd]
                  repeat rw [if_neg (by omega)]
              · refine (cxd k13_5).use ?_
                rintro _ k13_24 ⟨rfl, bk13_24⟩
                have Bk13_24 : Bel g_12.size g_12 k13_24 := Bk13_5.trans (bk13_24.mono Bk13_5.size)
                have zk13_24 := bk13_24.size
                have xk13_4k13_5k13_24 := bk13_24.get (lt_of_get xk13_4k13_5) xk13_4k13_5
                have xk13_5k13_24 := bk13_24.get (lt_of_get xk13_5) xk13_5
                have qk13_25 : g_12.size ≤ k13_4.size := by first | omega | (have := Bk13_24.size; omega)
                obtain ⟨k13_25, wk13_25, xk13_25, lk13_25, Bk13_25, ok13_25⟩ := store_step (l := xc) Bk13_24 xk13_5k13_24 qk13_25 lxc
                have xk13_4k13_5k13_24k13_25 := ok13_25 (k13_3.size) _ (by omega) xk13_4k13_5k13_24
                have qk13_26 : g_12.size ≤ k13_3.size := by first | omega | (have := Bk13_25.size; omega)
                obtain ⟨k13_26, wk13_26, xk13_26, lk13_26, Bk13_26, ok13_26⟩ := store_step (l := xd) Bk13_25 xk13_4k13_5k13_24k13_25 qk13_26 lxd
                have xk13_25k13_26 := ok13_26 (k13_4.size) _ (by omega) xk13_25
                simp (config := {maxSteps := 2000000, implicitDefEqProofs := false}) only [go_sem, ↓reduceIte, Nat.reduceEqDiff, Nat.reduceAdd, Nat.reduceMul, Nat.reduceLeDiff, Nat.reduceLT, Nat.reduceSub, IntWalk.iteOmega, IntWalk.toNatUp, reduceCtorEq, false_and, and_false, false_or, or_false, true_or, or_true, not_true_eq_false, not_false_eq_true, Bool.not_true, Bool.not_false, Bool.and_true, Bool.true_and, Bool.and_false, Bool.false_and, Bool.not_eq_true, beq_self_eq_true, Nat.add_zero, Int.reduceLE, Int.reduceLT, Int.reduceToNat, Int.reduceNeg, wk13_25, Bk13_25, lk13_25, wk13_26, Bk13_26, lk13_26, e9_12, rX3_13, tX3, vX3, yX3_13, e10_12, rZ3_13, tZ3, vZ3, yZ3_13, Bk13_24]
                refine ⟨Bk13_26, ⟨k13_4.size, k13_3.size, rfl, rfl, ?_, ?_, xk13_25k13_26, xk13_26⟩, fun t h1 h2 h3 => ?_⟩
                · omega
                · omega
                · simp only [updo, upd]
                  repeat rw [if_neg (by omega)]
        · refine ⟨?_, ?_⟩
          · refine ⟨?_, ?_⟩
            · refine (cxc k13_1).use ?_
              rintro _ k13_27 ⟨rfl, bk13_27⟩
              have Bk13_27 : Bel g_12.size g_12 k13_27 := Bk13_1.trans (bk13_27.mono Bk13_1.size)
              have zk13_27 := bk13_27.size
              have xk13_1k13_27 := bk13_27.get (lt_of_get xk13_1) xk13_1
              obtain ⟨k13_28, ek13_28, bk13_28, zk13_28, xk13_28, Bk13_28⟩ := alloc_step Bk13_27
              have xk13_1k13_27k13_28 := bk13_28.get (lt_of_get xk13_1k13_27) xk13_1k13_27
              simp (config := {maxSteps := 2000000, implicitDefEqProofs := false}) only [go_sem, ↓reduceIte, Nat.reduceEqDiff, Nat.reduceAdd, Nat.reduceMul, Nat.reduceLeDiff, Nat.reduceLT, Nat.reduceSub, IntWalk.iteOmega, IntWalk.toNatUp, reduceCtorEq, false_and, and_false, false_or, or_false, true_or, or_true, not_true_eq_false, not_false_eq_true, Bool.not_true, Bool.not_false, Bool.and_true, Bool.true_and, Bool.and_false, Bool.false_and, Bool.not_eq_true, beq_self_eq_true, Nat.add_zero, Int.reduceLE, Int.reduceLT, Int.reduceToNat, Int.reduceNeg, ek13_28, Bk13_28, e9_12, rX3_13, tX3, vX3, yX3_13, e10_12, rZ3_13, tZ3, vZ3, yZ3_13, Bk13_27]
              refine ⟨?_, ?_⟩
              · refine (cxd k13_27).use ?_
                rintro _ k13_29 ⟨rfl, bk13_29⟩
                have Bk13_29 : Bel g_12.size g_12 k13_29 := Bk13_27.trans (bk13_29.mono Bk13_27.size)
                have zk13_29 := bk13_29.size
                have xk13_1k13_27k13_29 := bk13_29.get (lt_of_get xk13_1k13_27) xk13_1k13_27
                obtain ⟨k13_30, ek13_30, bk13_30, zk13_30, xk13_30, Bk13_30⟩ := alloc_step Bk13_29
                have xk13_1k13_27k13_29k13_30 := bk13_30.get (lt_of_get xk13_1k13_27k13_29) xk13_1k13_27k13_29
                have qk13_31 : g_12.size ≤ g_12.size := by first | omega | (have := Bk13_30.size; omega)
                obtain ⟨k13_31, wk13_31, xk13_31, lk13_31, Bk13_31, ok13_31⟩ := store_step (l := xc) Bk13_30 xk13_1k13_27k13_29k13_30 qk13_31 lxc
                have xk13_30k13_31 := ok13_31 (k13_29.size) _ (by omega) xk13_30
                have qk13_32 : g_12.size ≤ k13_29.size := by first | omega | (have := Bk13_31.size; omega)
                obtain ⟨k13_32, wk13_32, xk13_32, lk13_32, Bk13_32, ok13_32⟩ := store_step (l := xd) Bk13_31 xk13_30k13_31 qk13_32 lxd
                have xk13_31k13_32 := ok13_32 (g_12.size) _ (by omega) xk13_31
                simp (config := {maxSteps := 2000000, implicitDefEqProofs := false}) only [go_sem, ↓reduceIte, Nat.reduceEqDiff, Nat.reduceAdd, Nat.reduceMul, Nat.reduceLeDiff, Nat.reduceLT, Nat.reduceSub, IntWalk.iteOmega, IntWalk.toNatUp, reduceCtorEq, false_and, and_false, false_or, or_false, true_or, or_true, not_true_eq_false, not_false_eq_true, Bool.not_true, Bool.not_false, Bool.and_true, Bool.true_and, Bool.and_false, Bool.false_and, Bool.not_eq_true, beq_self_eq_true, Nat.add_zero, Int.reduceLE, Int.reduceLT, Int.reduceToNat, Int.reduceNeg, ek13_30, Bk13_30, wk13_31, Bk13_31, lk13_31, wk13_32, Bk13_32, lk13_32, e9_12, rX3_13, tX3, vX3, yX3_13, e10_12, rZ3_13, tZ3, vZ3, yZ3_13, Bk13_29]
                refine ⟨Bk13_32, ⟨g_12.size, k13_29.size, rfl, rfl, ?_, ?_, xk13_31k13_32, xk13_32⟩, fun t h1 h2 h3 => ?_⟩
                · omega
                · omega
                · simp only [updo, upd]
                  repeat rw [if_neg (by omega)]
              · refine (cxd k13_28).use ?_
                rintro _ k13_33 ⟨rfl, bk13_33⟩
                have Bk13_33 : Bel g_12.size g_12 k13_33 := Bk13_28.trans (bk13_33.mono Bk13_28.size)
                have zk13_33 := bk13_33.size
                have xk13_1k13_27k13_28k13_33 := bk13_33.get (lt_of_get xk13_1k13_27k13_28) xk13_1k13_27k13_28
                have xk13_28k13_33 := bk13_33.get (lt_of_get xk13_28) xk13_28
                have qk13_34 : g_12.size ≤ g_12.size := by first | omega | (have := Bk13_33.size; omega)
                obtain ⟨k13_34, wk13_34, xk13_34, lk13_34, Bk13_34, ok13_34⟩ := store_step (l := xc) Bk13_33 xk13_1k13_27k13_28k13_33 qk13_34 lxc
                have xk13_28k13_33k13_34 := ok13_34 (k13_27.size) _ (by omega) xk13_28k13_33
                have qk13_35 : g_12.size ≤ k13_27.size := by first | omega | (have := Bk13_34.size; omega)
                obtain ⟨k13_35, wk13_35, xk13_35, lk13_35, Bk13_35, ok13_35⟩ := store_step (l := xd) Bk13_34 xk13_28k13_33k13_34 qk13_35 lxd
                have xk13_34k13_35 := ok13_35 (g_12.size) _ (by omega) xk13_34
                simp (config := {maxSteps := 2000000, implicitDefEqProofs := false}) only [go_sem, ↓reduceIte, Nat.reduceEqDiff, Nat.reduceAdd, Nat.reduceMul, Nat.reduceLeDiff, Nat.reduceLT, Nat.reduceSub, IntWalk.iteOmega, IntWalk.toNatUp, reduceCtorEq, false_and, and_false, false_or, or_false, true_or, or_true, not_true_eq_false, not_false_eq_true, Bool.not_true, Bool.not_false, Bool.and_true, Bool.true_and, Bool.and_false, Bool.false_and, Bool.not_eq_true, beq_self_eq_true, Nat.add_zero, Int.reduceLE, Int.reduceLT, Int.reduceToNat, Int.reduceNeg, wk13_34, Bk13_34, lk13_34, wk13_35, Bk13_35, lk13_35, e9_12, rX3_13, tX3, vX3, yX3_13, e10_12, rZ3_13, tZ3, vZ3, yZ3_13, Bk13_33]
                refine ⟨Bk13_35, ⟨g_12.size, k13_27.size, rfl, rfl, ?_, ?_, xk13_34k13_35, xk13_35⟩, fun t h1 h2 h3 => ?_⟩
                · omega
                · omega
                · simp only [updo, upd]
                  repeat rw [if_neg (by omega)]
            · refine (cxc k13_2).use ?_
              rintro _ k13_36 ⟨rfl, bk13_36⟩
              have Bk13_36 : Bel g_12.size g_12 k13_36 := Bk13_2.trans (bk13_36.mono Bk13_2.size)
              have zk13_36 := bk13_36.size
              have xk13_1k13_2k13_36 := bk13_36.get (lt_of_get xk13_1k13_2) xk13_1k13_2
              have xk13_2k13_36 := bk13_36.get (lt_of_get xk13_2) xk13_2
              simp (config := {maxSteps := 2000000, implicitDefEqProofs := false}) only [go_sem, ↓reduceIte, Nat.reduceEqDiff, Nat.reduceAdd, Nat.reduceMul, Nat.reduceLeDiff, Nat.reduceLT, Nat.reduceSub, IntWalk.iteOmega, IntWalk.toNatUp, reduceCtorEq, false_and, and_false, false_or, or_false, true_or, or_true, not_true_eq_false, not_false_eq_true, Bool.not_true, Bool.not_false, Bool.and_true, Bool.true_and, Bool.and_false, Bool.false_and, Bool.not_eq_true, beq_self_eq_true, Nat.add_zero, Int.reduceLE, Int.reduceLT, Int.reduceToNat, Int.reduceNeg, e9_12, rX3_13, tX3, vX3, yX3_13, e10_12, rZ3_13, tZ3, vZ3, yZ3_13, Bk13_36]
              refine (cxd k13_36).use ?_
              rintro _ k13_37 ⟨rfl, bk13_37⟩
              have Bk13_37 : Bel g_12.size g_12 k13_37 := Bk13_36.trans (bk13_37.mono Bk13_36.size)
              have zk13_37 := bk13_37.size
              have xk13_1k13_2k13_36k13_37 := bk13_37.get (lt_of_get xk13_1k13_2k13_36) xk13_1k13_2k13_36
              have xk13_2k13_36k13_37 := bk13_37.get (lt_of_get xk13_2k13_36) xk13_2k13_36
              have qk13_38 : g_12.size ≤ g_12.size := by first | omega | (have := Bk13_37.size; omega)
              obtain ⟨k13_38, wk13_38, xk13_38, lk13_38, Bk13_38, ok13_38⟩ := store_step (l := xc) Bk13_37 xk13_1k13_2k13_36k13_37 qk13_38 lxc
              have xk13_2k13_36k13_37k13_38 := ok13_38 (k13_1.size) _ (by omega) xk13_2k13_36k13_37
              have qk13_39 : g_12.size ≤ k13_1.size := by first | omega | (have := Bk13_38.size; omega)
              obtain ⟨k13_39, wk13_39, xk13_39, lk13_39, Bk13_39, ok13_39⟩ := store_step (l := xd) Bk13_38 xk13_2k13_36k13_37k13_38 qk13_39 lxd
              have xk13_38k13_39 := ok13_39 (g_12.size) _ (by omega) xk13_38
              simp (config := {maxSteps := 2000000, implicitDefEqProofs := false}) only [go_sem, ↓reduceIte, Nat.reduceEqDiff, Nat.reduceAdd, Nat.reduceMul, Nat.reduceLeDiff, Nat.reduceLT, Nat.reduceSub, IntWalk.iteOmega, IntWalk.toNatUp, reduceCtorEq, false_and, and_false, false_or, or_false, true_or, or_true, not_true_eq_false, not_false_eq_true, Bool.not_true, Bool.not_false, Bool.and_true, Bool.true_and, Bool.and_false, Bool.false_and, Bool.not_eq_true, beq_self_eq_true, Nat.add_zero, Int.reduceLE, Int.reduceLT, Int.reduceToNat, Int.reduceNeg, wk13_38, Bk13_38, lk13_38, wk13_39, Bk13_39, lk13_39, e9_12, rX3_13, tX3, vX3, yX3_13, e10_12, rZ3_13, tZ3, vZ3, yZ3_13, Bk13_37]
              refine ⟨Bk13_39, ⟨g_12.size, k13_1.size, rfl, rfl, ?_, ?_, xk13_38k13_39, xk13_39⟩, fun t h1 h2 h3 => ?_⟩
              · omega
              · omega
              · simp only [updo, upd]
                repeat rw [if_neg (by omega)]
          · refine ⟨?_, ?_⟩
            · refine (cxc k13_1).use ?_
              rintro _ k13_40 ⟨rfl, bk13_40⟩
              have Bk13_40 : Bel g_12.size g_12 k13_40 := Bk13_1.trans (bk13_40.mono Bk13_1.size)
              have zk13_40 := bk13_40.size
              have xk13_1k13_40 := bk13_40.get (lt_of_get xk13_1) xk13_1
              obtain ⟨k13_41, ek13_41, bk13_41, zk13_41, xk13_41, Bk13_41⟩ := alloc_step Bk13_40
              have xk13_1k13_40k13_41 := bk13_41.get (lt_of_get xk13_1k13_40) xk13_1k13_40
              simp (config := {maxSteps := 2000000, implicitDefEqProofs := false}) only [go_sem, ↓reduceIte, Nat.reduceEqDiff, Nat.reduceAdd, Nat.reduceMul, Nat.reduceLeDiff, Nat.reduceLT, Nat.reduceSub, IntWalk.iteOmega, IntWalk.toNatUp, reduceCtorEq, false_and, and_false, false_or, or_false, true_or, or_true, not_true_eq_false, not_false_eq_true, Bool.not_true, Bool.not_false, Bool.and_true, Bool.true_and, Bool.and_false, Bool.false_and, Bool.not_eq_true, beq_self_eq_true, Nat.add_zero, Int.reduceLE, Int.reduceLT, Int.reduceToNat, Int.reduceNeg, ek13_41, Bk13_41, e9_12, rX3_13, tX3, vX3, yX3_13, e10_12, rZ3_13, tZ3, vZ3, yZ3_13, Bk13_40]
              refine ⟨?_, ?_⟩
              · refine (cxd k13_40).use ?_
                rintro _ k13_42 ⟨rfl, bk13_42⟩
                have Bk13_42 : Bel g_12.size g_12 k13_42 := Bk13_40.trans (bk13_42.mono Bk13_40.size)
                have zk13_42 := bk13_42.size
                have xk13_1k13_40k13_42 := bk13_42.get (lt_of_get xk13_1k13_40) xk13_1k13_40
                obtain ⟨k13_43, ek13_43, bk13_43, zk13_43, xk13_43, Bk13_43⟩ := alloc_step Bk13_42
                have xk13_1k13_40k13_42k13_43 := bk13_43.get (lt_of_get xk13_1k13_40k13_42) xk13_1k13_40k13_42
                have qk13_44 : g_12.size ≤ k13_42.size := by first | omega | (have := Bk13_43.size; omega)
                obtain ⟨k13_44, wk13_44, xk13_44, lk13_44, Bk13_44, ok13_44⟩ := store_step (l := xc) Bk13_43 xk13_43 qk13_44 lxc
                have xk13_1k13_40k13_42k13_43k13_44 := ok13_44 (g_12.size) _ (by omega) xk13_1k13_40k13_42k13_43
                have qk13_45 : g_12.size ≤ g_12.size := by first | omega | (have := Bk13_44.size; omega)
                obtain ⟨k13_45, wk13_45, xk13_45, lk13_45, Bk13_45, ok13_45⟩ := store_step (l := xd) Bk13_44 xk13_1k13_40k13_42k13_43k13_44 qk13_45 lxd
                have xk13_44k13_45 := ok13_45 (k13_42.size) _ (by omega) xk13_44
                simp (config := {maxSteps := 2000000, implicitDefEqProofs := false}) only [go_sem, ↓reduceIte, Nat.reduceEqDiff, Nat.reduceAdd, Nat.reduceMul, Nat.reduceLeDiff, Nat.reduceLT, Nat.reduceSub, IntWalk.iteOmega, IntWalk.toNatUp, reduceCtorEq, false_and, and_false, false_or, or_false, true_or, or_true, not_true_eq_false, not_false_eq_true, Bool.not_true, Bool.not_false, Bool.and_true, Bool.true_and, Bool.and_false, Bool.false_and, Bool.not_eq_true, beq_self_eq_true, Nat.add_zero, Int.reduceLE, Int.reduceLT, Int.reduceToNat, Int.reduceNeg, ek13_43, Bk13_43, wk13_44, Bk13_44, lk13_44, wk13_45, Bk13_45, lk13_45, e9_12, rX3_13, tX3, vX3, yX3_13, e10_12, rZ3_13, tZ3, vZ3, yZ3_13, Bk13_42]
                refine ⟨Bk13_45, ⟨k13_42.size, g_12.size, rfl, rfl, ?_, ?_, xk13_44k13_45, xk13_45⟩, fun t h1 h2 h3 => ?_⟩
                · omega
                · omega
                · simp only [updo, upd]
                  repeat rw [if_neg (by omega)]
              · refine (cxd k13_41).use ?_
                rintro _ k13_46 ⟨rfl, bk13_46⟩
                have Bk13_46 : Bel g_12.size g_12 k13_46 := Bk13_41.trans (bk13_46.mono Bk13_41.size)
                have zk13_46 := bk13_46.size
                have xk13_1k13_40k13_41k13_46 := bk13_46.get (lt_of_get xk13_1k13_40k13_41) xk13_1k13_40k13_41
                have xk13_41k13_46 := bk13_46.get (lt_of_get xk13_41) xk13_41
                have qk13_47 : g_12.size ≤ k13_40.size := by first | omega | (have := Bk13_46.size; omega)
                obtain ⟨k13_47, wk13_47, xk13_47, lk13_47, Bk13_47, ok13_47⟩ := store_step (l := xc) Bk13_46 xk13_41k13_46 qk13_47 lxc
                have xk13_1k13_40k13_41k13_46k13_47 := ok13_47 (g_12.size) _ (by omega) xk13_1k13_40k13_41k13_46
                have qk13_48 : g_12.size ≤ g_12.size := by first | omega | (have := Bk13_47.size; omega)
                obtain ⟨k13_48, wk13_48, xk13_48, lk13_48, Bk13_48, ok13_48⟩ := store_step (l := xd) Bk13_47 xk13_1k13_40k13_41k13_46k13_47 qk13_48 lxd
                have xk13_47k13_48 := ok13_48 (k13_40.size) _ (by omega) xk13_47
                simp (config := {maxSteps := 2000000, implicitDefEqProofs := false}) only [go_sem, ↓reduceIte, Nat.reduceEqDiff, Nat.reduceAdd, Nat.reduceMul, Nat.reduceLeDiff, Nat.reduceLT, Nat.reduceSub, IntWalk.iteOmega, IntWalk.toNatUp, reduceCtorEq, false_and, and_false, false_or, or_false, true_or, or_true, not_true_eq_false, not_false_eq_true, Bool.not_true, Bool.not_false, Bool.and_true, Bool.true_and, Bool.and_false, Bool.false_and, Bool.not_eq_true, beq_self_eq_true, Nat.add_zero, Int.reduceLE, Int.reduceLT, Int.reduceToNat, Int.reduceNeg, wk13_47, Bk13_47, lk13_47, wk13_48, Bk13_48, lk13_48, e9_12, rX3_13, tX3, vX3, yX3_13, e10_12, rZ3_13, tZ3, vZ3, yZ3_13, Bk13_46]
                refine ⟨Bk13_48, ⟨k13_40.size, g_12.size, rfl, rfl, ?_, ?_, xk13_47k13_48, xk13_48⟩, fun t h1 h2 h3 => ?_⟩
                · omega
                · omega
                · simp only [updo, upd]
                  repeat rw [if_neg (by omega)]
            · refine (cxc k13_2).use ?_
              rintro _ k13_49 ⟨rfl, bk13_49⟩
              have Bk13_49 : Bel g_12.size g_12 k13_49 := Bk13_2.trans (bk13_49.mono Bk13_2.size)
              have zk13_49 := bk13_49.size
              have xk13_1k13_2k13_49 := bk13_49.get (lt_of_get xk13_1k13_2) xk13_1k13_2
              have xk13_2k13_49 := bk13_49.get (lt_of_get xk13_2) xk13_2
              simp (config := {maxSteps := 2000000, implicitDefEqProofs := false}) only [go_sem, ↓reduceIte, Nat.reduceEqDiff, Nat.reduceAdd, Nat.reduceMul, Nat.reduceLeDiff, Nat.reduceLT, Nat.reduceSub, IntWalk.iteOmega, IntWalk.toNatUp, reduceCtorEq, false_and, and_false, false_or, or_false, true_or, or_true, not_true_eq_false, not_false_eq_true, Bool.not_true, Bool.not_false, Bool.and_true, Bool.true_and, Bool.and_false, Bool.false_and, Bool.not_eq_true, beq_self_eq_true, Nat.add_zero, Int.reduceLE, Int.reduceLT, Int.reduceToNat, Int.reduceNeg, e9_12, rX3_13, tX3, vX3, yX3_13, e10_12, rZ3_13, tZ3, vZ3, yZ3_13, Bk13_49]
              refine (cxd k13_49).use ?_
              rintro _ k13_50 ⟨rfl, bk13_50⟩
              have Bk13_50 : Bel g_12.size g_12 k13_50 := Bk13_49.trans (bk13_50.mono Bk13_49.size)
              have zk13_50 := bk13_50.size
              have xk13_1k13_2k13_49k13_50 := bk13_50.get (lt_of_get xk13_1k13_2k13_49) xk13_1k13_2k13_49
              have xk13_2k13_49k13_50 := bk13_50.get (lt_of_get xk13_2k13_49) xk13_2k13_49
              have qk13_51 : g_12.size ≤ k13_1.size := by first | omega | (have := Bk13_50.size; omega)
              obtain ⟨k13_51, wk13_51, xk13_51, lk13_51, Bk13_51, ok13_51⟩ := store_step (l := xc) Bk13_50 xk13_2k13_49k13_50 qk13_51 lxc
              have xk13_1k13_2k13_49k13_50k13_51 := ok13_51 (g_12.size) _ (by omega) xk13_1k13_2k13_49k13_50
              have qk13_52 : g_12.size ≤ g_12.size := by first | omega | (have := Bk13_51.size; omega)
              obtain ⟨k13_52, wk13_52, xk13_52, lk13_52, Bk13_52, ok13_52⟩ := store_step (l := xd) Bk13_51 xk13_1k13_2k13_49k13_50k13_51 qk13_52 lxd
              have xk13_51k13_52 := ok13_52 (k13_1.size) _ (by omega) xk13_51
              simp (config := {maxSteps := 2000000, implicitDefEqProofs := false}) only [go_sem, ↓reduceIte, Nat.reduceEqDiff, Nat.reduceAdd, Nat.reduceMul, Nat.reduceLeDiff, Nat.reduceLT, Nat.reduceSub, IntWalk.iteOmega, IntWalk.toNatUp, reduceCtorEq, false_and, and_false, false_or, or_false, true_or, or_true, not_true_eq_false, not_false_eq_true, Bool.not_true, Bool.not_false, Bool.and_true, Bool.true_and, Bool.and_false, Bool.false_and, Bool.not_eq_true, beq_self_eq_true, Nat.add_zero, Int.reduceLE, Int.reduceLT, Int.reduceToNat, Int.reduceNeg, wk13_51, Bk13_51, lk13_51, wk13_52, Bk13_52, lk13_52, e9_12, rX3_13, tX3, vX3, yX3_13, e10_12, rZ3_13, tZ3, vZ3, yZ3_13, Bk13_50]
              refine ⟨Bk13_52, ⟨k13_1.size, g_12.size, rfl, rfl, ?_, ?_, xk13_51k13_52, xk13_52⟩, fun t h1 h2 h3 => ?_⟩
              · omega
              · omega
              · simp only [updo, upd]
                repeat rw [if_neg (by omega)]
      · rintro E_13 g_13 ⟨hR13, ⟨V15, V16, n15, n16, h15, h16, x15, x16⟩, keep13⟩
        have e5_13 := (keep13 5 (by omega) (by omega) (by omega)).trans e5_12
        have e6_13 := (keep13 6 (by omega) (by omega) (by omega)).trans e6_12
        have e7_13 := (keep13 7 (by omega) (by omega) (by omega)).trans e7_12
        have e8_13 := (keep13 8 (by omega) (by omega) (by omega)).trans e8_12
        have e9_13 := (keep13 9 (by omega) (by omega) (by omega)).trans e9_12
        have e10_13 := (keep13 10 (by omega) (by omega) (by omega)).trans e10_12
        have e11_13 := (keep13 11 (by omega) (by omega) (by omega)).trans e11_12
        have e12_13 := (keep13 12 (by omega) (by omega) (by omega)).trans e12_12
        have n13_13 := (keep13 13 (by omega) (by omega) (by omega)).trans n13
        have n14_13 := (keep13 14 (by omega) (by omega) (by omega)).trans n14
        have zA_13 := hR13.get (lt_of_get zA_12) zA_12
        have zB_13 := hR13.get (lt_of_get zB_12) zB_12
        have zC_13 := hR13.get (lt_of_get zC_12) zC_12
        have zD_13 := hR13.get (lt_of_get zD_12) zD_12
        have zUu_13 := hR13.get (lt_of_get zUu_12) zUu_12
        have x13_13 := hR13.get (lt_of_get x13) x13
        have x14_13 := hR13.get (lt_of_get x14) x14
        have zk2_13 := hR13.get (lt_of_get zk2_12) zk2_12
        have B_13 := B_12.trans (hR13.mono B_12.size)
        simp (config := {maxSteps := 2000000, implicitDefEqProofs := false}) only [go_sem, ↓reduceIte, Nat.reduceEqDiff, Nat.reduceAdd, Nat.reduceMul, Nat.reduceLeDiff, Nat.reduceLT, Nat.reduceSub, IntWalk.iteOmega, IntWalk.toNatUp, reduceCtorEq, false_and, and_false, false_or, or_false, true_or, or_true, not_true_eq_false, not_false_eq_true, Bool.not_true, Bool.not_false, Bool.and_true, Bool.true_and, Bool.and_false, Bool.false_and, Bool.not_eq_true, beq_self_eq_true, Nat.add_zero, Int.reduceLE, Int.reduceLT, Int.reduceToNat, Int.reduceNeg]
        obtain ⟨aa, haa⟩ : ∃ l, l = ftimes xa xa := ⟨_, rfl⟩
        have kaa := fok_times (wxa.mono (show _ ≤ (524288 : Int) by omega)) (wxa.mono (show _ ≤ (524288 : Int) by omega))
        rw [← haa] at kaa
        obtain ⟨laa, waa⟩ := kaa
        have caa : ∀ G, CallsH Try.prog T 42 #[.agg (xa.map sv).toArray, .agg (xa.map sv).toArray] G fun v' h' => v' = .agg (aa.map sv).toArray ∧ Bel G.size G h' := fun G => by rw [haa]; exact fldTimes_ok T G xa xa lxa lxa (wxa.mono (by omega)) (wxa.mono (by omega))
        have taa : (aa.map sv).take 16 = aa.map sv := List.take_of_length_le (by simp [laa])
        have vaa : (aa.map sv).length = 16 := by simp [laa]
        obtain ⟨bb, hbb⟩ : ∃ l, l = ftimes xb xb := ⟨_, rfl⟩
        have kbb := fok_times (wxb.mono (show _ ≤ (524288 : Int) by omega)) (wxb.mono (show _ ≤ (524288 : Int) by omega))
        rw [← hbb] at kbb
        obtain ⟨lbb, wbb⟩ := kbb
        have cbb : ∀ G, CallsH Try.prog T 42 #[.agg (xb.map sv).toArray, .agg (xb.map sv).toArray] G fun v' h' => v' = .agg (bb.map sv).toArray ∧ Bel G.size G h' := fun G => by rw [hbb]; exact fldTimes_ok T G xb xb lxb lxb (wxb.mono (by omega)) (wxb.mono (by omega))
        have tbb : (bb.map sv).take 16 = bb.map sv := List.take_of_length_le (by simp [lbb])
        have vbb : (bb.map sv).length = 16 := by simp [lbb]
        have rxa_14 := rd_fld lxa x13_13
        have yxa_14 := lt_of_get x13_13
        have rxb_14 := rd_fld lxb x14_13
        have yxb_14 := lt_of_get x14_13
        refine VS.mono (N := RegN g_13 17 18 aa bb E_13) ?_ ?_ (fun _ _ _ h => h) (fun _ _ h => h)
        · refine VS.w (g_13.size) [5, 8, 9] (.q 0 (.q 1 (.q 3 (.q 4 (.or 2 (.or 5 (.or 6 (.s 7 (.w 8 (.w 9 .nil))) (.s 7 (.s 6 (.w 8 (.w 9 .nil))))) (.or 6 (.or 5 (.s 7 (.w 8 (.w 9 .nil))) (.s 7 (.w 5 (.w 8 (.w 9 .nil))))) (.s 7 (.or 5 (.s 6 (.w 8 (.w 9 .nil))) (.s 6 (.w 5 (.w 8 (.w 9 .nil)))))))) (.or 6 (.or 2 (.or 5 (.s 7 (.w 8 (.w 9 .nil))) (.s 7 (.w 5 (.w 8 (.w 9 .nil))))) (.s 7 (.s 2 (.w 5 (.w 8 (.w 9 .nil)))))) (.s 7 (.or 2 (.or 5 (.s 6 (.w 8 (.w 9 .nil))) (.s 6 (.w 5 (.w 8 (.w 9 .nil))))) (.s 6 (.s 2 (.w 5 (.w 8 (.w 9 .nil))))))))))))) mixed (by kernel_rfl) ?_
          obtain ⟨k14_1, ek14_1, bk14_1, zk14_1, xk14_1, Bk14_1⟩ := alloc_step (Bel.refl g_13.size g_13)
          obtain ⟨k14_2, ek14_2, bk14_2, zk14_2, xk14_2, Bk14_2⟩ := alloc_step Bk14_1
          have xk14_1k14_2 := bk14_2.get (lt_of_get xk14_1) xk14_1
          simp (config := {maxSteps := 2000000, implicitDefEqProofs := false}) only [go_sem, ↓reduceIte, Nat.reduceEqDiff, Nat.reduceAdd, Nat.reduceMul, Nat.reduceLeDiff, Nat.reduceLT, Nat.reduceSub, IntWalk.iteOmega, IntWalk.toNatUp, reduceCtorEq, false_and, and_false, false_or, or_false, true_or, or_true, not_true_eq_false, not_false_eq_true, Bool.not_true, Bool.not_false, Bool.and_true, Bool.true_and, Bool.and_false, Bool.false_and, Bool.not_eq_true, beq_self_eq_true, Nat.add_zero, Int.reduceLE, Int.reduceLT, Int.reduceToNat, Int.reduceNeg, ek14_1, Bk14_1, ek14_2, Bk14_2, n13_13, rxa_14, txa, vxa, yxa_14, n14_13, rxb_14, txb, vxb, yxb_14]
          refine ⟨?_, ?_⟩
          · refine (caa g_13).use ?_
            rintro _ k14_3 ⟨rfl, bk14_3⟩
            have Bk14_3 : Bel g_13.size g_13 k14_3 := (Bel.refl g_13.size g_13).trans (bk14_3.mono (Bel.refl g_13.size g_13).size)
            have zk14_3 := bk14_3.size
            obtain ⟨k14_4, ek14_4, bk14_4, zk14_4, xk14_4, Bk14_4⟩ := alloc_step Bk14_3
            obtain ⟨k14_5, ek14_5, bk14_5, zk14_5, xk14_5, Bk14_5⟩ := alloc_step Bk14_4
            have xk14_4k14_5 := bk14_5.get (lt_of_get xk14_4) xk14_4
            simp (config := {maxSteps := 2000000, implicitDefEqProofs := false}) only [go_sem, ↓reduceIte, Nat.reduceEqDiff, Nat.reduceAdd, Nat.reduceMul, Nat.reduceLeDiff, Nat.reduceLT, Nat.reduceSub, IntWalk.iteOmega, IntWalk.toNatUp, reduceCtorEq, false_and, and_false, false_or, or_false, true_or, or_true, not_true_eq_false, not_false_eq_true, Bool.not_true, Bool.not_false, Bool.and_true, Bool.true_and, Bool.and_false, Bool.false_and, Bool.not_eq_true, beq_self_eq_true, Nat.add_zero, Int.reduceLE, Int.reduceLT, Int.reduceToNat, Int.reduceNeg, ek14_4, Bk14_4, ek14_5, Bk14_5, n13_13, rxa_14, txa, vxa, yxa_14, n14_13, rxb_14, txb, vxb, yxb_14, Bk14_3]
            refine ⟨?_, ?_⟩
            · refine (cbb k14_3).use ?_
              rintro _ k14_6 ⟨rfl, bk14_6⟩
              have Bk14_6 : Bel g_13.size g_13 k14_6 := Bk14_3.trans (bk14_6.mono Bk14_3.size)
              have zk14_6 := bk14_6.size
              obtain ⟨k14_7, ek14_7, bk14_7, zk14_7, xk14_7, Bk14_7⟩ := alloc_step Bk14_6
              obtain ⟨k14_8, ek14_8, bk14_8, zk14_8, xk14_8, Bk14_8⟩ := alloc_step Bk14_7
              have xk14_7k14_8 := bk14_8.get (lt_of_get xk14_7) xk14_7
              have qk14_9 : g_13.size ≤ k14_7.size := by first | omega | (have := Bk14_8.size; omega)
              obtain ⟨k14_9, wk14_9, xk14_9, lk14_9, Bk14_9, ok14_9⟩ := store_step (l := aa) Bk14_8 xk14_8 qk14_9 laa
              have xk14_7k14_8k14_9 := ok14_9 (k14_6.size) _ (by omega) xk14_7k14_8
              have qk14_10 : g_13.size ≤ k14_6.size := by first | omega | (have := Bk14_9.size; omega)
              obtain ⟨k14_10, wk14_10, xk14_10, lk14_10, Bk14_10, ok14_10⟩ := store_step (l := bb) Bk14_9 xk14_7k14_8k14_9 qk14_10 lbb
              have xk14_9k14_10 := ok14_10 (k14_7.size) _ (by omega) xk14_9
              have qk14_11 : g_13.size ≤ k14_6.size := by first | omega | (have := Bk14_8.size; omega)
              obtain ⟨k14_11, wk14_11, xk14_11, lk14_11, Bk14_11, ok14_11⟩ := store_step (l := aa) Bk14_8 xk14_7k14_8 qk14_11 laa
              have xk14_8k14_11 := ok14_11 (k14_7.size) _ (by omega) xk14_8
              have qk14_12 : g_13.size ≤ k14_7.size := by first | omega | (have := Bk14_11.size; omega)
              obtain ⟨k14_12, wk14_12, xk14_12, lk14_12, Bk14_12, ok14_12⟩ := store_step (l := bb) Bk14_11 xk14_8k14_11 qk14_12 lbb
              have xk14_11k14_12 := ok14_12 (k14_6.size) _ (by omega) xk14_11
              simp (config := {maxSteps := 2000000, implicitDefEqProofs := false}) only [go_sem, ↓reduceIte, Nat.reduceEqDiff, Nat.reduceAdd, Nat.reduceMul, Nat.reduceLeDiff, Nat.reduceLT, Nat.reduceSub, IntWalk.iteOmega, IntWalk.toNatUp, reduceCtorEq, false_and, and_false, false_or, or_false, true_or, or_true, not_true_eq_false, not_false_eq_true, Bool.not_true, Bool.not_false, Bool.and_true, Bool.true_and, Bool.and_false, Bool.false_and, Bool.not_eq_true, beq_self_eq_true, Nat.add_zero, Int.reduceLE, Int.reduceLT, Int.reduceToNat, Int.reduceNeg, ek14_7, Bk14_7, ek14_8, Bk14_8, wk14_9, Bk14_9, lk14_9, wk14_10, Bk14_10, lk14_10, wk14_11, Bk14_11, lk14_11, wk14_12, Bk14_12, lk14_12, n13_13, rxa_14, txa, vxa, yxa_14, n14_13, rxb_14, txb, vxb, yxb_14, Bk14_6]
              refine ⟨?_, ?_⟩
              · refine ⟨Bk14_12, ⟨k14_6.size, k14_7.size, rfl, rfl, ?_, ?_, xk14_11k14_12, xk14_12⟩, fun t h1 h2 h3 => ?_⟩
                · omega
                · omega
                · simp only [updo, upd]
                  repeat rw [if_neg (by omega)]
              · refine ⟨Bk14_10, ⟨k14_7.size, k14_6.size, rfl, rfl, ?_, ?_, xk14_9k14_10, xk14_10⟩, fun t h1 h2 h3 => ?_⟩
                · omega
                · omega
                · simp only [updo, upd]
                  repeat rw [if_neg (by omega)]
            · refine ⟨?_, ?_⟩
              · refine ⟨?_, ?_⟩
                · refine (cbb k14_4).use ?_
                  rintro _ k14_13 ⟨rfl, bk14_13⟩
                  have Bk14_13 : Bel g_13.size g_13 k14_13 := Bk14_4.trans (bk14_13.mono Bk14_4.size)
                  have zk14_13 := bk14_13.size
                  have xk14_4k14_13 := bk14_13.get (lt_of_get xk14_4) xk14_4
                  obtain ⟨k14_14, ek14_14, bk14_14, zk14_14, xk14_14, Bk14_14⟩ := alloc_step Bk14_13
                  have xk14_4k14_13k14_14 := bk14_14.get (lt_of_get xk14_4k14_13) xk14_4k14_13
                  have qk14_15 : g_13.size ≤ k14_3.size := by first | omega | (have := Bk14_14.size; omega)
                  obtain ⟨k14_15, wk14_15, xk14_15, lk14_15, Bk14_15, ok14_15⟩ := store_step (l := aa) Bk14_14 xk14_4k14_13k14_14 qk14_15 laa
                  have xk14_14k14_15 := ok14_15 (k14_13.size) _ (by omega) xk14_14
                  have qk14_16 : g_13.size ≤ k14_13.size := by first | omega | (have := Bk14_15.size; omega)
                  obtain ⟨k14_16, wk14_16, xk14_16, lk14_16, Bk14_16, ok14_16⟩ := store_step (l := bb) Bk14_15 xk14_14k14_15 qk14_16 lbb
                  have xk14_15k14_16 := ok14_16 (k14_3.size) _ (by omega) xk14_15
                  simp (config := {maxSteps := 2000000, implicitDefEqProofs := false}) only [go_sem, ↓reduceIte, Nat.reduceEqDiff, Nat.reduceAdd, Nat.reduceMul, Nat.reduceLeDiff, Nat.reduceLT, Nat.reduceSub, IntWalk.iteOmega, IntWalk.toNatUp, reduceCtorEq, false_and, and_false, false_or, or_false, true_or, or_true, not_true_eq_false, not_false_eq_true, Bool.not_true, Bool.not_false, Bool.and_true, Bool.true_and, Bool.and_false, Bool.false_and, Bool.not_eq_true, beq_self_eq_true, Nat.add_zero, Int.reduceLE, Int.reduceLT, Int.reduceToNat, Int.reduceNeg, ek14_14, Bk14_14, wk14_15, Bk14_15, lk14_15, wk14_16, Bk14_16, lk14_16, n13_13, rxa_14, txa, vxa, yxa_14, n14_13, rxb_14, txb, vxb, yxb_14, Bk14_13]
                  refine ⟨Bk14_16, ⟨k14_3.size, k14_13.size, rfl, rfl, ?_, ?_, xk14_15k14_16, xk14_16⟩, fun t h1 h2 h3 => ?_⟩
                  · omega
                  · omega
                  · simp only [updo, upd]
                    repeat rw [if_neg (by omega)]
                · refine (cbb k14_5).use ?_
                  rintro _ k14_17 ⟨rfl, bk14_17⟩
                  have Bk14_17 : Bel g_13.size g_13 k14_17 := Bk14_5.trans (bk14_17.mono Bk14_5.size)
                  have zk14_17 := bk14_17.size
                  have xk14_4k14_5k14_17 := bk14_17.get (lt_of_get xk14_4k14_5) xk14_4k14_5
                  have xk14_5k14_17 := bk14_17.get (lt_of_get xk14_5) xk14_5
                  have qk14_18 : g_13.size ≤ k14_3.size := by first | omega | (have := Bk14_17.size; omega)
                  obtain ⟨k14_18, wk14_18, xk14_18, lk14_18, Bk14_18, ok14_18⟩ := store_step (l := aa) Bk14_17 xk14_4k14_5k14_17 qk14_18 laa
                  have xk14_5k14_17k14_18 := ok14_18 (k14_4.size) _ (by omega) xk14_5k14_17
                  have qk14_19 : g_13.size ≤ k14_4.size := by first | omega | (have := Bk14_18.size; omega)
                  obtain ⟨k14_19, wk14_19, xk14_19, lk14_19, Bk14_19, ok14_19⟩ := store_step (l := bb) Bk14_18 xk14_5k14_17k14_18 qk14_19 lbb
                  have xk14_18k14_19 := ok14_19 (k14_3.size) _ (by omega) xk14_18
                  simp (config := {maxSteps := 2000000, implicitDefEqProofs := false}) only [go_sem, ↓reduceIte, Nat.reduceEqDiff, Nat.reduceAdd, Nat.reduceMul, Nat.reduceLeDiff, Nat.reduceLT, Nat.reduceSub, IntWalk.iteOmega, IntWalk.toNatUp, reduceCtorEq, false_and, and_false, false_or, or_false, true_or, or_true, not_true_eq_false, not_false_eq_true, Bool.not_true, Bool.not_false, Bool.and_true, Bool.true_and, Bool.and_false, Bool.false_and, Bool.not_eq_true, beq_self_eq_true, Nat.add_zero, Int.reduceLE, Int.reduceLT, Int.reduceToNat, Int.reduceNeg, wk14_18, Bk14_18, lk14_18, wk14_19, Bk14_19, lk14_19, n13_13, rxa_14, txa, vxa, yxa_14, n14_13, rxb_14, txb, vxb, yxb_14, Bk14_17]
                  refine ⟨Bk14_19, ⟨k14_3.size, k14_4.size, rfl, rfl, ?_, ?_, xk14_18k14_19, xk14_19⟩, fun t h1 h2 h3 => ?_⟩
                  · omega
                  · omega
                  · simp only [updo, upd]
                    repeat rw [if_neg (by omega)]
              · refine ⟨?_, ?_⟩
                · refine (cbb k14_4).use ?_
                  rintro _ k14_20 ⟨rfl, bk14_20⟩
                  have Bk14_20 : Bel g_13.size g_13 k14_20 := Bk14_4.trans (bk14_20.mono Bk14_4.size)
                  have zk14_20 := bk14_20.size
                  have xk14_4k14_20 := bk14_20.get (lt_of_get xk14_4) xk14_4
                  obtain ⟨k14_21, ek14_21, bk14_21, zk14_21, xk14_21, Bk14_21⟩ := alloc_step Bk14_20
                  have xk14_4k14_20k14_21 := bk14_21.get (lt_of_get xk14_4k14_20) xk14_4k14_20
                  have qk14_22 : g_13.size ≤ k14_20.size := by first | omega | (have := Bk14_21.size; omega)
                  obtain ⟨k14_22, wk14_22, xk14_22, lk14_22, Bk14_22, ok14_22⟩ := store_step (l := aa) Bk14_21 xk14_21 qk14_22 laa
                  have xk14_4k14_20k14_21k14_22 := ok14_22 (k14_3.size) _ (by omega) xk14_4k14_20k14_21
                  have qk14_23 : g_13.size ≤ k14_3.size := by first | omega | (have := Bk14_22.size; omega)
                  obtain ⟨k14_23, wk14_23, xk14_23, lk14_23, Bk14_23, ok14_23⟩ := store_step (l := bb) Bk14_22 xk14_4k14_20k14_21k14_22 qk14_23 lbb
                  have xk14_22k14_23 := ok14_23 (k14_20.size) _ (by omega) xk14_22
                  simp (config := {maxSteps := 2000000, implicitDefEqProofs := false}) only [go_sem, ↓reduceIte, Nat.reduceEqDiff, Nat.reduceAdd, Nat.reduceMul, Nat.reduceLeDiff, Nat.reduceLT, Nat.reduceSub, IntWalk.iteOmega, IntWalk.toNatUp, reduceCtorEq, false_and, and_false, false_or, or_false, true_or, or_true, not_true_eq_false, not_false_eq_true, Bool.not_true, Bool.not_false, Bool.and_true, Bool.true_and, Bool.and_false, Bool.false_and, Bool.not_eq_true, beq_self_eq_true, Nat.add_zero, Int.reduceLE, Int.reduceLT, Int.reduceToNat, Int.reduceNeg, ek14_21, Bk14_21, wk14_22, Bk14_22, lk14_22, wk14_23, Bk14_23, lk14_23, n13_13, rxa_14, txa, vxa, yxa_14, n14_13, rxb_14, txb, vxb, yxb_14, Bk14_20]
                  refine ⟨Bk14_23, ⟨k14_20.size, k14_3.size, rfl, rfl, ?_, ?_, xk14_22k14_23, xk14_23⟩, fun t h1 h2 h3 => ?_⟩
                  · omega
                  · omega
                  · simp only [updo, upd]
                    repeat rw [if_neg (by omega)]
                · refine (cbb k14_5).use ?_
                  rintro _ k14_24 ⟨rfl, bk14_24⟩
                  have Bk14_24 : Bel g_13.size g_13 k14_24 := Bk14_5.trans (bk14_24.mono Bk14_5.size)
                  have zk14_24 := bk14_24.size
                  have xk14_4k14_5k14_24 := bk14_24.get (lt_of_get xk14_4k14_5) xk14_4k14_5
                  have xk14_5k14_24 := bk14_24.get (lt_of_get xk14_5) xk14_5
                  have qk14_25 : g_13.size ≤ k14_4.size := by first | omega | (have := Bk14_24.size; omega)
                  obtain ⟨k14_25, wk14_25, xk14_25, lk14_25, Bk14_25, ok14_25⟩ := store_step (l := aa) Bk14_24 xk14_5k14_24 qk14_25 laa
                  have xk14_4k14_5k14_24k14_25 := ok14_25 (k14_3.size) _ (by omega) xk14_4k14_5k14_24
                  have qk14_26 : g_13.size ≤ k14_3.size := by first | omega | (have := Bk14_25.size; omega)
                  obtain ⟨k14_26, wk14_26, xk14_26, lk14_26, Bk14_26, ok14_26⟩ := store_step (l := bb) Bk14_25 xk14_4k14_5k14_24k14_25 qk14_26 lbb
                  have xk14_25k14_26 := ok14_26 (k14_4.size) _ (by omega) xk14_25
                  simp (config := {maxSteps := 2000000, implicitDefEqProofs := false}) only [go_sem, ↓reduceIte, Nat.reduceEqDiff, Nat.reduceAdd, Nat.reduceMul, Nat.reduceLeDiff, Nat.reduceLT, Nat.reduceSub, IntWalk.iteOmega, IntWalk.toNatUp, reduceCtorEq, false_and, and_false, false_or, or_false, true_or, or_true, not_true_eq_false, not_false_eq_true, Bool.not_true, Bool.not_false, Bool.and_true, Bool.true_and, Bool.and_false, Bool.false_and, Bool.not_eq_true, beq_self_eq_true, Nat.add_zero, Int.reduceLE, Int.reduceLT, Int.reduceToNat, Int.reduceNeg, wk14_25, Bk14_25, lk14_25, wk14_26, Bk14_26, lk14_26, n13_13, rxa_14, txa, vxa, yxa_14, n14_13, rxb_14, txb, vxb, yxb_14, Bk14_24]
                  refine ⟨Bk14_26, ⟨k14_4.size, k14_3.size, rfl, rfl, ?_, ?_, xk14_25k14_26, xk14_26⟩, fun t h1 h2 h3 => ?_⟩
                  · omega
                  · omega
                  · simp only [updo, upd]
                    repeat rw [if_neg (by omega)]
          · refine ⟨?_, ?_⟩
            · refine ⟨?_, ?_⟩
              · refine (caa k14_1).use ?_
                rintro _ k14_27 ⟨rfl, bk14_27⟩
                have Bk14_27 : Bel g_13.size g_13 k14_27 := Bk14_1.trans (bk14_27.mono Bk14_1.size)
                have zk14_27 := bk14_27.size
                have xk14_1k14_27 := bk14_27.get (lt_of_get xk14_1) xk14_1
                obtain ⟨k14_28, ek14_28, bk14_28, zk14_28, xk14_28, Bk14_28⟩ := alloc_step Bk14_27
                have xk14_1k14_27k14_28 := bk14_28.get (lt_of_get xk14_1k14_27) xk14_1k14_27
                simp (config := {maxSteps := 2000000, implicitDefEqProofs := false}) only [go_sem, ↓reduceIte, Nat.reduceEqDiff, Nat.reduceAdd, Nat.reduceMul, Nat.reduceLeDiff, Nat.reduceLT, Nat.reduceSub, IntWalk.iteOmega, IntWalk.toNatUp, reduceCtorEq, false_and, and_false, false_or, or_false, true_or, or_true, not_true_eq_false, not_false_eq_true, Bool.not_true, Bool.not_false, Bool.and_true, Bool.true_and, Bool.and_false, Bool.false_and, Bool.not_eq_true, beq_self_eq_true, Nat.add_zero, Int.reduceLE, Int.reduceLT, Int.reduceToNat, Int.reduceNeg, ek14_28, Bk14_28, n13_13, rxa_14, txa, vxa, yxa_14, n14_13, rxb_14, txb, vxb, yxb_14, Bk14_27]
                refine ⟨?_, ?_⟩
                · refine (cbb k14_27).use ?_
                  rintro _ k14_29 ⟨rfl, bk14_29⟩
                  have Bk14_29 : Bel g_13.size g_13 k14_29 := Bk14_27.trans (bk14_29.mono Bk14_27.size)
                  have zk14_29 := bk14_29.size
                  have xk14_1k14_27k14_29 := bk14_29.get (lt_of_get xk14_1k14_27) xk14_1k14_27
                  obtain ⟨k14_30, ek14_30, bk14_30, zk14_30, xk14_30, Bk14_30⟩ := alloc_step Bk14_29
                  have xk14_1k14_27k14_29k14_30 := bk14_30.get (lt_of_get xk14_1k14_27k14_29) xk14_1k14_27k14_29
                  have qk14_31 : g_13.size ≤ g_13.size := by first | omega | (have := Bk14_30.size; omega)
                  obtain ⟨k14_31, wk14_31, xk14_31, lk14_31, Bk14_31, ok14_31⟩ := store_step (l := aa) Bk14_30 xk14_1k14_27k14_29k14_30 qk14_31 laa
                  have xk14_30k14_31 := ok14_31 (k14_29.size) _ (by omega) xk14_30
                  have qk14_32 : g_13.size ≤ k14_29.size := by first | omega | (have := Bk14_31.size; omega)
                  obtain ⟨k14_32, wk14_32, xk14_32, lk14_32, Bk14_32, ok14_32⟩ := store_step (l := bb) Bk14_31 xk14_30k14_31 qk14_32 lbb
                  have xk14_31k14_32 := ok14_32 (g_13.size) _ (by omega) xk14_31
                  simp (config := {maxSteps := 2000000, implicitDefEqProofs := false}) only [go_sem, ↓reduceIte, Nat.reduceEqDiff, Nat.reduceAdd, Nat.reduceMul, Nat.reduceLeDiff, Nat.reduceLT, Nat.reduceSub, IntWalk.iteOmega, IntWalk.toNatUp, reduceCtorEq, false_and, and_false, false_or, or_false, true_or, or_true, not_true_eq_false, not_false_eq_true, Bool.not_true, Bool.not_false, Bool.and_true, Bool.true_and, Bool.and_false, Bool.false_and, Bool.not_eq_true, beq_self_eq_true, Nat.add_zero, Int.reduceLE, Int.reduceLT, Int.reduceToNat, Int.reduceNeg, ek14_30, Bk14_30, wk14_31, Bk14_31, lk14_31, wk14_32, Bk14_32, lk14_32, n13_13, rxa_14, txa, vxa, yxa_14, n14_13, rxb_14, txb, vxb, yxb_14, Bk14_29]
                  refine ⟨Bk14_32, ⟨g_13.size, k14_29.size, rfl, rfl, ?_, ?_, xk14_31k14_32, xk14_32⟩, fun t h1 h2 h3 => ?_⟩
                  · omega
                  · omega
                  · simp only [updo, upd]
                    repeat rw [if_neg (by omega)]
                · refine (cbb k14_28).use ?_
                  rintro _ k14_33 ⟨rfl, bk14_33⟩
                  have Bk14_33 : Bel g_13.size g_13 k14_33 := Bk14_28.trans (bk14_33.mono Bk14_28.size)
                  have zk14_33 := bk14_33.size
                  have xk14_1k14_27k14_28k14_33 := bk14_33.get (lt_of_get xk14_1k14_27k14_28) xk14_1k14_27k14_28
                  have xk14_28k14_33 := bk14_33.get (lt_of_get xk14_28) xk14_28
                  have qk14_34 : g_13.size ≤ g_13.size := by first | omega | (have := Bk14_33.size; omega)
                  obtain ⟨k14_34, wk14_34, xk14_34, lk14_34, Bk14_34, ok14_34⟩ := store_step (l := aa) Bk14_33 xk14_1k14_27k14_28k14_33 qk14_34 laa
                  have xk14_28k14_33k14_34 := ok14_34 (k14_27.size) _ (by omega) xk14_28k14_33
                  have qk14_35 : g_13.size ≤ k14_27.size := by first | omega | (have := Bk14_34.size; omega)
                  obtain ⟨k14_35, wk14_35, xk14_35, lk14_35, Bk14_35, ok14_35⟩ := store_step (l := bb) Bk14_34 xk14_28k14_33k14_34 qk14_35 lbb
                  have xk14_34k14_35 := ok14_35 (g_13.size) _ (by omega) xk14_34
                  simp (config := {maxSteps := 2000000, implicitDefEqProofs := false}) only [go_sem, ↓reduceIte, Nat.reduceEqDiff, Nat.reduceAdd, Nat.reduceMul, Nat.reduceLeDiff, Nat.reduceLT, Nat.reduceSub, IntWalk.iteOmega, IntWalk.toNatUp, reduceCtorEq, false_and, and_false, false_or, or_false, true_or, or_true, not_true_eq_false, not_false_eq_true, Bool.not_true, Bool.not_false, Bool.and_true, Bool.true_and, Bool.and_false, Bool.false_and, Bool.not_eq_true, beq_self_eq_true, Nat.add_zero, Int.reduceLE, Int.reduceLT, Int.reduceToNat, Int.reduceNeg, wk14_34, Bk14_34, lk14_34, wk14_35, Bk14_35, lk14_35, n13_13, rxa_14, txa, vxa, yxa_14, n14_13, rxb_14, txb, vxb, yxb_14, Bk14_33]
                  refine ⟨Bk14_35, ⟨g_13.size, k14_27.size, rfl, rfl, ?_, ?_, xk14_34k14_35, xk14_35⟩, fun t h1 h2 h3 => ?_⟩
                  · omega
                  · omega
                  · simp only [updo, upd]
                    repeat rw [if_neg (by omega)]
              · refine (caa k14_2).use ?_
                rintro _ k14_36 ⟨rfl, bk14_36⟩
                have Bk14_36 : Bel g_13.size g_13 k14_36 := Bk14_2.trans (bk14_36.mono Bk14_2.size)
                have zk14_36 := bk14_36.size
                have xk14_1k14_2k14_36 := bk14_36.get (lt_of_get xk14_1k14_2) xk14_1k14_2
                have xk14_2k14_36 := bk14_36.get (lt_of_get xk14_2) xk14_2
                simp (config := {maxSteps := 2000000, implicitDefEqProofs := false}) only [go_sem, ↓reduceIte, Nat.reduceEqDiff, Nat.reduceAdd, Nat.reduceMul, Nat.reduceLeDiff, Nat.reduceLT, Nat.reduceSub, IntWalk.iteOmega, IntWalk.toNatUp, reduceCtorEq, false_and, and_false, false_or, or_false, true_or, or_true, not_true_eq_false, not_false_eq_true, Bool.not_true, Bool.not_false, Bool.and_true, Bool.true_and, Bool.and_false, Bool.false_and, Bool.not_eq_true, beq_self_eq_true, Nat.add_zero, Int.reduceLE, Int.reduceLT, Int.reduceToNat, Int.reduceNeg, n13_13, rxa_14, txa, vxa, yxa_14, n14_13, rxb_14, txb, vxb, yxb_14, Bk14_36]
                refine (cbb k14_36).use ?_
                rintro _ k14_37 ⟨rfl, bk14_37⟩
                have Bk14_37 : Bel g_13.size g_13 k14_37 := Bk14_36.trans (bk14_37.mono Bk14_36.size)
                have zk14_37 := bk14_37.size
                have xk14_1k14_2k14_36k14_37 := bk14_37.get (lt_of_get xk14_1k14_2k14_36) xk14_1k14_2k14_36
                have xk14_2k14_36k14_37 := bk14_37.get (lt_of_get xk14_2k14_36) xk14_2k14_36
                have qk14_38 : g_13.size ≤ g_13.size := by first | omega | (have := Bk14_37.size; omega)
                obtain ⟨k14_38, wk14_38, xk14_38, lk14_38, Bk14_38, ok14_38⟩ := store_step (l := aa) Bk14_37 xk14_1k14_2k14_36k14_37 qk14_38 laa
                have xk14_2k14_36k14_37k14_38 := ok14_38 (k14_1.size) _ (by omega) xk14_2k14_36k14_37
                have qk14_39 : g_13.size ≤ k14_1.size := by first | omega | (have := Bk14_38.size; omega)
                obtain ⟨k14_39, wk14_39, xk14_39, lk14_39, Bk14_39, ok14_39⟩ := store_step (l := bb) Bk14_38 xk14_2k14_36k14_37k14_38 qk14_39 lbb
                have xk14_38k14_39 := ok14_39 (g_13.size) _ (by omega) xk14_38
                simp (config := {maxSteps := 2000000, implicitDefEqProofs := false}) only [go_sem, ↓reduceIte, Nat.reduceEqDiff, Nat.reduceAdd, Nat.reduceMul, Nat.reduceLeDiff, Nat.reduceLT, Nat.reduceSub, IntWalk.iteOmega, IntWalk.toNatUp, reduceCtorEq, false_and, and_false, false_or, or_false, true_or, or_true, not_true_eq_false, not_false_eq_true, Bool.not_true, Bool.not_false, Bool.and_true, Bool.true_and, Bool.and_false, Bool.false_and, Bool.not_eq_true, beq_self_eq_true, Nat.add_zero, Int.reduceLE, Int.reduceLT, Int.reduceToNat, Int.reduceNeg, wk14_38, Bk14_38, lk14_38, wk14_39, Bk14_39, lk14_39, n13_13, rxa_14, txa, vxa, yxa_14, n14_13, rxb_14, txb, vxb, yxb_14, Bk14_37]
                refine ⟨Bk14_39, ⟨g_13.size, k14_1.size, rfl, rfl, ?_, ?_, xk14_38k14_39, xk14_39⟩, fun t h1 h2 h3 => ?_⟩
                · omega
                · omega
                · simp only [updo, upd]
                  repeat rw [if_neg (by omega)]
            · refine ⟨?_, ?_⟩
              · refine (caa k14_1).use ?_
                rintro _ k14_40 ⟨rfl, bk14_40⟩
                have Bk14_40 : Bel g_13.size g_13 k14_40 := Bk14_1.trans (bk14_40.mono Bk14_1.size)
                have zk14_40 := bk14_40.size
                have xk14_1k14_40 := bk14_40.get (lt_of_get xk14_1) xk14_1
                obtain ⟨k14_41, ek14_41, bk14_41, zk14_41, xk14_41, Bk14_41⟩ := alloc_step Bk14_40
                have xk14_1k14_40k14_41 := bk14_41.get (lt_of_get xk14_1k14_40) xk14_1k14_40
                simp (config := {maxSteps := 2000000, implicitDefEqProofs := false}) only [go_sem, ↓reduceIte, Nat.reduceEqDiff, Nat.reduceAdd, Nat.reduceMul, Nat.reduceLeDiff, Nat.reduceLT, Nat.reduceSub, IntWalk.iteOmega, IntWalk.toNatUp, reduceCtorEq, false_and, and_false, false_or, or_false, true_or, or_true, not_true_eq_false, not_false_eq_true, Bool.not_true, Bool.not_false, Bool.and_true, Bool.true_and, Bool.and_false, Bool.false_and, Bool.not_eq_true, beq_self_eq_true, Nat.add_zero, Int.reduceLE, Int.reduceLT, Int.reduceToNat, Int.reduceNeg, ek14_41, Bk14_41, n13_13, rxa_14, txa, vxa, yxa_14, n14_13, rxb_14, txb, vxb, yxb_14, Bk14_40]
                refine ⟨?_, ?_⟩
                · refine (cbb k14_40).use ?_
                  rintro _ k14_42 ⟨rfl, bk14_42⟩
                  have Bk14_42 : Bel g_13.size g_13 k14_42 := Bk14_40.trans (bk14_42.mono Bk14_40.size)
                  have zk14_42 := bk14_42.size
                  have xk14_1k14_40k14_42 := bk14_42.get (lt_of_get xk14_1k14_40) xk14_1k14_40
                  obtain ⟨k14_43, ek14_43, bk14_43, zk14_43, xk14_43, Bk14_43⟩ := alloc_step Bk14_42
                  have xk14_1k14_40k14_42k14_43 := bk14_43.get (lt_of_get xk14_1k14_40k14_42) xk14_1k14_40k14_42
                  have qk14_44 : g_13.size ≤ k14_42.size := by first | omega | (have := Bk14_43.size; omega)
                  obtain ⟨k14_44, wk14_44, xk14_44, lk14_44, Bk14_44, ok14_44⟩ := store_step (l := aa) Bk14_43 xk14_43 qk14_44 laa
                  have xk14_1k14_40k14_42k14_43k14_44 := ok14_44 (g_13.size) _ (by omega) xk14_1k14_40k14_42k14_43
                  have qk14_45 : g_13.size ≤ g_13.size := by first | omega | (have := Bk14_44.size; omega)
                  obtain ⟨k14_45, wk14_45, xk14_45, lk14_45, Bk14_45, ok14_45⟩ := store_step (l := bb) Bk14_44 xk14_1k14_40k14_42k14_43k14_44 qk14_45 lbb
                  have xk14_44k14_45 := ok14_45 (k14_42.size) _ (by omega) xk14_44
                  simp (config := {maxSteps := 2000000, implicitDefEqProofs := false}) only [go_sem, ↓reduceIte, Nat.reduceEqDiff, Nat.reduceAdd, Nat.reduceMul, Nat.reduceLeDiff, Nat.reduceLT, Nat.reduceSub, IntWalk.iteOmega, IntWalk.toNatUp, reduceCtorEq, false_and, and_false, false_or, or_false, true_or, or_true, not_true_eq_false, not_false_eq_true, Bool.not_true, Bool.not_false, Bool.and_true, Bool.true_and, Bool.and_false, Bool.false_and, Bool.not_eq_true, beq_self_eq_true, Nat.add_zero, Int.reduceLE, Int.reduceLT, Int.reduceToNat, Int.reduceNeg, ek14_43, Bk14_43, wk14_44, Bk14_44, lk14_44, wk14_45, Bk14_45, lk14_45, n13_13, rxa_14, txa, vxa, yxa_14, n14_13, rxb_14, txb, vxb, yxb_14, Bk14_42]
                  refine ⟨Bk14_45, ⟨k14_42.size, g_13.size, rfl, rfl, ?_, ?_, xk14_44k14_45, xk14_45⟩, fun t h1 h2 h3 => ?_⟩
                  · omega
                  · omega
                  · simp only [updo, upd]
                    repeat rw [if_neg (by omega)]
                · refine (cbb k14_41).use ?_
                  rintro _ k14_46 ⟨rfl, bk14_46⟩
                  have Bk14_46 : Bel g_13.size g_13 k14_46 := Bk14_41.trans (bk14_46.mono Bk14_41.size)
                  have zk14_46 := bk14_46.size
                  have xk14_1k14_40k14_41k14_46 := bk14_46.get (lt_of_get xk14_1k14_40k14_41) xk14_1k14_40k14_41
                  have xk14_41k14_46 := bk14_46.get (lt_of_get xk14_41) xk14_41
                  have qk14_47 : g_13.size ≤ k14_40.size := by first | omega | (have := Bk14_46.size; omega)
                  obtain ⟨k14_47, wk14_47, xk14_47, lk14_47, Bk14_47, ok14_47⟩ := store_step (l := aa) Bk14_46 xk14_41k14_46 qk14_47 laa
                  have xk14_1k14_40k14_41k14_46k14_47 := ok14_47 (g_13.size) _ (by omega) xk14_1k14_40k14_41k14_46
                  have qk14_48 : g_13.size ≤ g_13.size := by first | omega | (have := Bk14_47.size; omega)
                  obtain ⟨k14_48, wk14_48, xk14_48, lk14_48, Bk14_48, ok14_48⟩ := store_step (l := bb) Bk14_47 xk14_1k14_40k14_41k14_46k14_47 qk14_48 lbb
                  have xk14_47k14_48 := ok14_48 (k14_40.size) _ (by omega) xk14_47
                  simp (config := {maxSteps := 2000000, implicitDefEqProofs := false}) only [go_sem, ↓reduceIte, Nat.reduceEqDiff, Nat.reduceAdd, Nat.reduceMul, Nat.reduceLeDiff, Nat.reduceLT, Nat.reduceSub, IntWalk.iteOmega, IntWalk.toNatUp, reduceCtorEq, false_and, and_false, false_or, or_false, true_or, or_true, not_true_eq_false, not_false_eq_true, Bool.not_true, Bool.not_false, Bool.and_true, Bool.true_and, Bool.and_false, Bool.false_and, Bool.not_eq_true, beq_self_eq_true, Nat.add_zero, Int.reduceLE, Int.reduceLT, Int.reduceToNat, Int.reduceNeg, wk14_47, Bk14_47, lk14_47, wk14_48, Bk14_48, lk14_48, n13_13, rxa_14, txa, vxa, yxa_14, n14_13, rxb_14, txb, vxb, yxb_14, Bk14_46]
                  refine ⟨Bk14_48, ⟨k14_40.size, g_13.size, rfl, rfl, ?_, ?_, xk14_47k14_48, xk14_48⟩, fun t h1 h2 h3 => ?_⟩
                  · omega
                  · omega
                  · simp only [updo, upd]
                    repeat rw [if_neg (by omega)]
              · refine (caa k14_2).use ?_
                rintro _ k14_49 ⟨rfl, bk14_49⟩
                have Bk14_49 : Bel g_13.size g_13 k14_49 := Bk14_2.trans (bk14_49.mono Bk14_2.size)
                have zk14_49 := bk14_49.size
                have xk14_1k14_2k14_49 := bk14_49.get (lt_of_get xk14_1k14_2) xk14_1k14_2
                have xk14_2k14_49 := bk14_49.get (lt_of_get xk14_2) xk14_2
                simp (config := {maxSteps := 2000000, implicitDefEqProofs := false}) only [go_sem, ↓reduceIte, Nat.reduceEqDiff, Nat.reduceAdd, Nat.reduceMul, Nat.reduceLeDiff, Nat.reduceLT, Nat.reduceSub, IntWalk.iteOmega, IntWalk.toNatUp, reduceCtorEq, false_and, and_false, false_or, or_false, true_or, or_true, not_true_eq_false, not_false_eq_true, Bool.not_true, Bool.not_false, Bool.and_true, Bool.true_and, Bool.and_false, Bool.false_and, Bool.not_eq_true, beq_self_eq_true, Nat.add_zero, Int.reduceLE, Int.reduceLT, Int.reduceToNat, Int.reduceNeg, n13_13, rxa_14, txa, vxa, yxa_14, n14_13, rxb_14, txb, vxb, yxb_14, Bk14_49]
                refine (cbb k14_49).use ?_
                rintro _ k14_50 ⟨rfl, bk14_50⟩
                have Bk14_50 : Bel g_13.size g_13 k14_50 := Bk14_49.trans (bk14_50.mono Bk14_49.size)
                have zk14_50 := bk14_50.size
                have xk14_1k14_2k14_49k14_50 := bk14_50.get (lt_of_get xk14_1k14_2k14_49) xk14_1k14_2k14_49
                have xk14_2k14_49k14_50 := bk14_50.get (lt_of_get xk14_2k14_49) xk14_2k14_49
                have qk14_51 : g_13.size ≤ k14_1.size := by first | omega | (have := Bk14_50.size; omega)
                obtain ⟨k14_51, wk14_51, xk14_51, lk14_51, Bk14_51, ok14_51⟩ := store_step (l := aa) Bk14_50 xk14_2k14_49k14_50 qk14_51 laa
                have xk14_1k14_2k14_49k14_50k14_51 := ok14_51 (g_13.size) _ (by omega) xk14_1k14_2k14_49k14_50
                have qk14_52 : g_13.size ≤ g_13.size := by first | omega | (have := Bk14_51.size; omega)
                obtain ⟨k14_52, wk14_52, xk14_52, lk14_52, Bk14_52, ok14_52⟩ := store_step (l := bb) Bk14_51 xk14_1k14_2k14_49k14_50k14_51 qk14_52 lbb
                have xk14_51k14_52 := ok14_52 (k14_1.size) _ (by omega) xk14_51
                simp (config := {maxSteps := 2000000, implicitDefEqProofs := false}) only [go_sem, ↓reduceIte, Nat.reduceEqDiff, Nat.reduceAdd, Nat.reduceMul, Nat.reduceLeDiff, Nat.reduceLT, Nat.reduceSub, IntWalk.iteOmega, IntWalk.toNatUp, reduceCtorEq, false_and, and_false, false_or, or_false, true_or, or_true, not_true_eq_false, not_false_eq_true, Bool.not_true, Bool.not_false, Bool.and_true, Bool.true_and, Bool.and_false, Bool.false_and, Bool.not_eq_true, beq_self_eq_true, Nat.add_zero, Int.reduceLE, Int.reduceLT, Int.reduceToNat, Int.reduceNeg, wk14_51, Bk14_51, lk14_51, wk14_52, Bk14_52, lk14_52, n13_13, rxa_14, txa, vxa, yxa_14, n14_13, rxb_14, txb, vxb, yxb_14, Bk14_50]
                refine ⟨Bk14_52, ⟨k14_1.size, g_13.size, rfl, rfl, ?_, ?_, xk14_51k14_52, xk14_52⟩, fun t h1 h2 h3 => ?_⟩
                · omega
                · omega
                · simp only [updo, upd]
                  repeat rw [if_neg (by omega)]
        · rintro E_14 g_14 ⟨hR14, ⟨V17, V18, n17, n18, h17, h18, x17, x18⟩, keep14⟩
          have e5_14 := (keep14 5 (by omega) (by omega) (by omega)).trans e5_13
          have e6_14 := (keep14 6 (by omega) (by omega) (by omega)).trans e6_13
          have e7_14 := (keep14 7 (by omega) (by omega) (by omega)).trans e7_13
          have e8_14 := (keep14 8 (by omega) (by omega) (by omega)).trans e8_13
          have e9_14 := (keep14 9 (by omega) (by omega) (by omega)).trans e9_13
          have e10_14 := (keep14 10 (by omega) (by omega) (by omega)).trans e10_13
          have e11_14 := (keep14 11 (by omega) (by omega) (by omega)).trans e11_13
          have e12_14 := (keep14 12 (by omega) (by omega) (by omega)).trans e12_13
          have n13_14 := (keep14 13 (by omega) (by omega) (by omega)).trans n13_13
          have n14_14 := (keep14 14 (by omega) (by omega) (by omega)).trans n14_13
          have n15_14 := (keep14 15 (by omega) (by omega) (by omega)).trans n15
          have n16_14 := (keep14 16 (by omega) (by omega) (by omega)).trans n16
          have zA_14 := hR14.get (lt_of_get zA_13) zA_13
          have zB_14 := hR14.get (lt_of_get zB_13) zB_13
          have zC_14 := hR14.get (lt_of_get zC_13) zC_13
          have zD_14 := hR14.get (lt_of_get zD_13) zD_13
          have zUu_14 := hR14.get (lt_of_get zUu_13) zUu_13
          have x13_14 := hR14.get (lt_of_get x13_13) x13_13
          have x14_14 := hR14.get (lt_of_get x14_13) x14_13
          have x15_14 := hR14.get (lt_of_get x15) x15
          have x16_14 := hR14.get (lt_of_get x16) x16
          have zk2_14 := hR14.get (lt_of_get zk2_13) zk2_13
          have B_14 := B_13.trans (hR14.mono B_13.size)
          simp (config := {maxSteps := 2000000, implicitDefEqProofs := false}) only [go_sem, ↓reduceIte, Nat.reduceEqDiff, Nat.reduceAdd, Nat.reduceMul, Nat.reduceLeDiff, Nat.reduceLT, Nat.reduceSub, IntWalk.iteOmega, IntWalk.toNatUp, reduceCtorEq, false_and, and_false, false_or, or_false, true_or, or_true, not_true_eq_false, not_false_eq_true, Bool.not_true, Bool.not_false, Bool.and_true, Bool.true_and, Bool.and_false, Bool.false_and, Bool.not_eq_true, beq_self_eq_true, Nat.add_zero, Int.reduceLE, Int.reduceLT, Int.reduceToNat, Int.reduceNeg]
          obtain ⟨da, hda⟩ : ∃ l, l = ftimes xd xa := ⟨_, rfl⟩
          have kda := fok_times (wxd.mono (show _ ≤ (524288 : Int) by omega)) (wxa.mono (show _ ≤ (524288 : Int) by omega))
          rw [← hda] at kda
          obtain ⟨lda, wda⟩ := kda
          have cda : ∀ G, CallsH Try.prog T 42 #[.agg (xd.map sv).toArray, .agg (xa.map sv).toArray] G fun v' h' => v' = .agg (da.map sv).toArray ∧ Bel G.size G h' := fun G => by rw [hda]; exact fldTimes_ok T G xd xa lxd lxa (wxd.mono (by omega)) (wxa.mono (by omega))
          have tda : (da.map sv).take 16 = da.map sv := List.take_of_length_le (by simp [lda])
          have vda : (da.map sv).length = 16 := by simp [lda]
          obtain ⟨cb, hcb⟩ : ∃ l, l = ftimes xc xb := ⟨_, rfl⟩
          have kcb := fok_times (wxc.mono (show _ ≤ (524288 : Int) by omega)) (wxb.mono (show _ ≤ (524288 : Int) by omega))
          rw [← hcb] at kcb
          obtain ⟨lcb, wcb⟩ := kcb
          have ccb : ∀ G, CallsH Try.prog T 42 #[.agg (xc.map sv).toArray, .agg (xb.map sv).toArray] G fun v' h' => v' = .agg (cb.map sv).toArray ∧ Bel G.size G h' := fun G => by rw [hcb]; exact fldTimes_ok T G xc xb lxc lxb (wxc.mono (by omega)) (wxb.mono (by omega))
          have tcb : (cb.map sv).take 16 = cb.map sv := List.take_of_length_le (by simp [lcb])
          have vcb : (cb.map sv).length = 16 := by simp [lcb]
          have rxa_15 := rd_fld lxa x13_14
          have yxa_15 := lt_of_get x13_14
          have rxb_15 := rd_fld lxb x14_14
          have yxb_15 := lt_of_get x14_14
          have rxc_15 := rd_fld lxc x15_14
          have yxc_15 := lt_of_get x15_14
          have rxd_15 := rd_fld lxd x16_14
          have yxd_15 := lt_of_get x16_14
          refine VS.mono (N := RegN g_14 19 20 da cb E_14) ?_ ?_ (fun _ _ _ h => h) (fun _ _ h => h)
          · refine VS.w (g_14.size) [5, 8, 9] (.q 0 (.q 1 (.q 3 (.q 4 (.or 2 (.or 5 (.or 6 (.s 7 (.w 8 (.w 9 .nil))) (.s 7 (.s 6 (.w 8 (.w 9 .nil))))) (.or 6 (.or 5 (.s 7 (.w 8 (.w 9 .nil))) (.s 7 (.w 5 (.w 8 (.w 9 .nil))))) (.s 7 (.or 5 (.s 6 (.w 8 (.w 9 .nil))) (.s 6 (.w 5 (.w 8 (.w 9 .nil)))))))) (.or 6 (.or 2 (.or 5 (.s 7 (.w 8 (.w 9 .nil))) (.s 7 (.w 5 (.w 8 (.w 9 .nil))))) (.s 7 (.s 2 (.w 5 (.w 8 (.w 9 .nil)))))) (.s 7 (.or 2 (.or 5 (.s 6 (.w 8 (.w 9 .nil))) (.s 6 (.w 5 (.w 8 (.w 9 .nil))))) (.s 6 (.s 2 (.w 5 (.w 8 (.w 9 .nil))))))))))))) mixed (by kernel_rfl) ?_
            obtain ⟨k15_1, ek15_1, bk15_1, zk15_1, xk15_1, Bk15_1⟩ := alloc_step (Bel.refl g_14.size g_14)
            obtain ⟨k15_2, ek15_2, bk15_2, zk15_2, xk15_2, Bk15_2⟩ := alloc_step Bk15_1
            have xk15_1k15_2 := bk15_2.get (lt_of_get xk15_1) xk15_1
            simp (config := {maxSteps := 2000000, implicitDefEqProofs := false}) only [go_sem, ↓reduceIte, Nat.reduceEqDiff, Nat.reduceAdd, Nat.reduceMul, Nat.reduceLeDiff, Nat.reduceLT, Nat.reduceSub, IntWalk.iteOmega, IntWalk.toNatUp, reduceCtorEq, false_and, and_false, false_or, or_false, true_or, or_true, not_true_eq_false, not_false_eq_true, Bool.not_true, Bool.not_false, Bool.and_true, Bool.true_and, Bool.and_false, Bool.false_and, Bool.not_eq_true, beq_self_eq_true, Nat.add_zero, Int.reduceLE, Int.reduceLT, Int.reduceToNat, Int.reduceNeg, ek15_1, Bk15_1, ek15_2, Bk15_2, n13_14, rxa_15, txa, vxa, yxa_15, n14_14, rxb_15, txb, vxb, yxb_15, n15_14, rxc_15, txc, vxc, yxc_15, n16_14, rxd_15, txd, vxd, yxd_15]
            refine ⟨?_, ?_⟩
            · refine (cda g_14).use ?_
              rintro _ k15_3 ⟨rfl, bk15_3⟩
              have Bk15_3 : Bel g_14.size g_14 k15_3 := (Bel.refl g_14.size g_14).trans (bk15_3.mono (Bel.refl g_14.size g_14).size)
              have zk15_3 := bk15_3.size
              obtain ⟨k15_4, ek15_4, bk15_4, zk15_4, xk15_4, Bk15_4⟩ := alloc_step Bk15_3
              obtain ⟨k15_5, ek15_5, bk15_5, zk15_5, xk15_5, Bk15_5⟩ := alloc_step Bk15_4
              have xk15_4k15_5 := bk15_5.get (lt_of_get xk15_4) xk15_4
              simp (config := {maxSteps := 2000000, implicitDefEqProofs := false}) only [go_sem, ↓reduceIte, Nat.reduceEqDiff, Nat.reduceAdd, Nat.reduceMul, Nat.reduceLeDiff, Nat.reduceLT, Nat.reduceSub, IntWalk.iteOmega, IntWalk.toNatUp, reduceCtorEq, false_and, and_false, false_or, or_false, true_or, or_true, not_true_eq_false, not_false_eq_true, Bool.not_true, Bool.not_false, Bool.and_true, Bool.true_and, Bool.and_false, Bool.false_and, Bool.not_eq_true, beq_self_eq_true, Nat.add_zero, Int.reduceLE, Int.reduceLT, Int.reduceToNat, Int.reduceNeg, ek15_4, Bk15_4, ek15_5, Bk15_5, n13_14, rxa_15, txa, vxa, yxa_15, n14_14, rxb_15, txb, vxb, yxb_15, n15_14, rxc_15, txc, vxc, yxc_15, n16_14, rxd_15, txd, vxd, yxd_15, Bk15_3]
              refine ⟨?_, ?_⟩
              · refine (ccb k15_3).use ?_
                rintro _ k15_6 ⟨rfl, bk15_6⟩
                have Bk15_6 : Bel g_14.size g_14 k15_6 := Bk15_3.trans (bk15_6.mono Bk15_3.size)
                have zk15_6 := bk15_6.size
                obtain ⟨k15_7, ek15_7, bk15_7, zk15_7, xk15_7, Bk15_7⟩ := alloc_step Bk15_6
                obtain ⟨k15_8, ek15_8, bk15_8, zk15_8, xk15_8, Bk15_8⟩ := alloc_step Bk15_7
                have xk15_7k15_8 := bk15_8.get (lt_of_get xk15_7) xk15_7
                have qk15_9 : g_14.size ≤ k15_7.size := by first | omega | (have := Bk15_8.size; omega)
                obtain ⟨k15_9, wk15_9, xk15_9, lk15_9, Bk15_9, ok15_9⟩ := store_step (l := da) Bk15_8 xk15_8 qk15_9 lda
                have xk15_7k15_8k15_9 := ok15_9 (k15_6.size) _ (by omega) xk15_7k15_8
                have qk15_10 : g_14.size ≤ k15_6.size := by first | omega | (have := Bk15_9.size; omega)
                obtain ⟨k15_10, wk15_10, xk15_10, lk15_10, Bk15_10, ok15_10⟩ := store_step (l := cb) Bk15_9 xk15_7k15_8k15_9 qk15_10 lcb
                have xk15_9k15_10 := ok15_10 (k15_7.size) _ (by omega) xk15_9
                have qk15_11 : g_14.size ≤ k15_6.size := by first | omega | (have := Bk15_8.size; omega)
                obtain ⟨k15_11, wk15_11, xk15_11, lk15_11, Bk15_11, ok15_11⟩ := store_step (l := da) Bk15_8 xk15_7k15_8 qk15_11 lda
                have xk15_8k15_11 := ok15_11 (k15_7.size) _ (by omega) xk15_8
                have qk15_12 : g_14.size ≤ k15_7.size := by first | omega | (have := Bk15_11.size; omega)
                obtain ⟨k15_12, wk15_12, xk15_12, lk15_12, Bk15_12, ok15_12⟩ := store_step (l := cb) Bk15_11 xk15_8k15_11 qk15_12 lcb
                have xk15_11k15_12 := ok15_12 (k15_6.size) _ (by omega) xk15_11
                simp (config := {maxSteps := 2000000, implicitDefEqProofs := false}) only [go_sem, ↓reduceIte, Nat.reduceEqDiff, Nat.reduceAdd, Nat.reduceMul, Nat.reduceLeDiff, Nat.reduceLT, Nat.reduceSub, IntWalk.iteOmega, IntWalk.toNatUp, reduceCtorEq, false_and, and_false, false_or, or_false, true_or, or_true, not_true_eq_false, not_false_eq_true, Bool.not_true, Bool.not_false, Bool.and_true, Bool.true_and, Bool.and_false, Bool.false_and, Bool.not_eq_true, beq_self_eq_true, Nat.add_zero, Int.reduceLE, Int.reduceLT, Int.reduceToNat, Int.reduceNeg, ek15_7, Bk15_7, ek15_8, Bk15_8, wk15_9, Bk15_9, lk15_9, wk15_10, Bk15_10, lk15_10, wk15_11, Bk15_11, lk15_11, wk15_12, Bk15_12, lk15_12, n13_14, rxa_15, txa, vxa, yxa_15, n14_14, rxb_15, txb, vxb, yxb_15, n15_14, rxc_15, txc, vxc, yxc_15, n16_14, rxd_15, txd, vxd, yxd_15, Bk15_6]
                refine ⟨?_, ?_⟩
                · refine ⟨Bk15_12, ⟨k15_6.size, k15_7.size, rfl, rfl, ?_, ?_, xk15_11k15_12, xk15_12⟩, fun t h1 h2 h3 => ?_⟩
                  · omega
                  · omega
                  · simp only [updo, upd]
                    repeat rw [if_neg (by omega)]
                · refine ⟨Bk15_10, ⟨k15_7.size, k15_6.size, rfl, rfl, ?_, ?_, xk15_9k15_10, xk15_10⟩, fun t h1 h2 h3 => ?_⟩
                  · omega
                  · omega
                  · simp only [updo, upd]
                    repeat rw [if_neg (by omega)]
              · refine ⟨?_, ?_⟩
                · refine ⟨?_, ?_⟩
                  · refine (ccb k15_4).use ?_
                    rintro _ k15_13 ⟨rfl, bk15_13⟩
                    have Bk15_13 : Bel g_14.size g_14 k15_13 := Bk15_4.trans (bk15_13.mono Bk15_4.size)
                    have zk15_13 := bk15_13.size
                    have xk15_4k15_13 := bk15_13.get (lt_of_get xk15_4) xk15_4
                    obtain ⟨k15_14, ek15_14, bk15_14, zk15_14, xk15_14, Bk15_14⟩ := alloc_step Bk15_13
                    have xk15_4k15_13k15_14 := bk15_14.get (lt_of_get xk15_4k15_13) xk15_4k15_13
                    have qk15_15 : g_14.size ≤ k15_3.size := by first | omega | (have := Bk15_14.size; omega)
                    obtain ⟨k15_15, wk15_15, xk15_15, lk15_15, Bk15_15, ok15_15⟩ := store_step (l := da) Bk15_14 xk15_4k15_13k15_14 qk15_15 lda
                    have xk15_14k15_15 := ok15_15 (k15_13.size) _ (by omega) xk15_14
                    have qk15_16 : g_14.size ≤ k15_13.size := by first | omega | (have := Bk15_15.size; omega)
                    obtain ⟨k15_16, wk15_16, xk15_16, lk15_16, Bk15_16, ok15_16⟩ := store_step (l := cb) Bk15_15 xk15_14k15_15 qk15_16 lcb
                    have xk15_15k15_16 := ok15_16 (k15_3.size) _ (by omega) xk15_15
                    simp (config := {maxSteps := 2000000, implicitDefEqProofs := false}) only [go_sem, ↓reduceIte, Nat.reduceEqDiff, Nat.reduceAdd, Nat.reduceMul, Nat.reduceLeDiff, Nat.reduceLT, Nat.reduceSub, IntWalk.iteOmega, IntWalk.toNatUp, reduceCtorEq, false_and, and_false, false_or, or_false, true_or, or_true, not_true_eq_false, not_false_eq_true, Bool.not_true, Bool.not_false, Bool.and_true, Bool.true_and, Bool.and_false, Bool.false_and, Bool.not_eq_true, beq_self_eq_true, Nat.add_zero, Int.reduceLE, Int.reduceLT, Int.reduceToNat, Int.reduceNeg, ek15_14, Bk15_14, wk15_15, Bk15_15, lk15_15, wk15_16, Bk15_16, lk15_16, n13_14, rxa_15, txa, vxa, yxa_15, n14_14, rxb_15, txb, vxb, yxb_15, n15_14, rxc_15, txc, vxc, yxc_15, n16_14, rxd_15, txd, vxd, yxd_15, Bk15_13]
                    refine ⟨Bk15_16, ⟨k15_3.size, k15_13.size, rfl, rfl, ?_, ?_, xk15_15k15_16, xk15_16⟩, fun t h1 h2 h3 => ?_⟩
                    · omega
                    · omega
                    · simp only [updo, upd]
                      repeat rw [if_neg (by omega)]
                  · refine (ccb k15_5).use ?_
                    rintro _ k15_17 ⟨rfl, bk15_17⟩
                    have Bk15_17 : Bel g_14.size g_14 k15_17 := Bk15_5.trans (bk15_17.mono Bk15_5.size)
                    have zk15_17 := bk15_17.size
                    have xk15_4k15_5k15_17 := bk15_17.get (lt_of_get xk15_4k15_5) xk15_4k15_5
                    have xk15_5k15_17 := bk15_17.get (lt_of_get xk15_5) xk15_5
                    have qk15_18 : g_14.size ≤ k15_3.size := by first | omega | (have := Bk15_17.size; omega)
                    obtain ⟨k15_18, wk15_18, xk15_18, lk15_18, Bk15_18, ok15_18⟩ := store_step (l := da) Bk15_17 xk15_4k15_5k15_17 qk15_18 lda
                    have xk15_5k15_17k15_18 := ok15_18 (k15_4.size) _ (by omega) xk15_5k15_17
                    have qk15_19 : g_14.size ≤ k15_4.size := by first | omega | (have := Bk15_18.size; omega)
                    obtain ⟨k15_19, wk15_19, xk15_19, lk15_19, Bk15_19, ok15_19⟩ := store_step (l := cb) Bk15_18 xk15_5k15_17k15_18 qk15_19 lcb
                    have xk15_18k15_19 := ok15_19 (k15_3.size) _ (by omega) xk15_18
                    simp (config := {maxSteps := 2000000, implicitDefEqProofs := false}) only [go_sem, ↓reduceIte, Nat.reduceEqDiff, Nat.reduceAdd, Nat.reduceMul, Nat.reduceLeDiff, Nat.reduceLT, Nat.reduceSub, IntWalk.iteOmega, IntWalk.toNatUp, reduceCtorEq, false_and, and_false, false_or, or_false, true_or, or_true, not_true_eq_false, not_false_eq_true, Bool.not_true, Bool.not_false, Bool.and_true, Bool.true_and, Bool.and_false, Bool.false_and, Bool.not_eq_true, beq_self_eq_true, Nat.add_zero, Int.reduceLE, Int.reduceLT, Int.reduceToNat, Int.reduceNeg, wk15_18, Bk15_18, lk15_18, wk15_19, Bk15_19, lk15_19, n13_14, rxa_15, txa, vxa, yxa_15, n14_14, rxb_15, txb, vxb, yxb_15, n15_14, rxc_15, txc, vxc, yxc_15, n16_14, rxd_15, txd, vxd, yxd_15, Bk15_17]
                    refine ⟨Bk15_19, ⟨k15_3.size, k15_4.size, rfl, rfl, ?_, ?_, xk15_18k15_19, xk15_19⟩, fun t h1 h2 h3 => ?_⟩
                    · omega
                    · omega
                    · simp only [updo, upd]
                      repeat rw [if_neg (by omega)]
                · refine ⟨?_, ?_⟩
                  · refine (ccb k15_4).use ?_
                    rintro _ k15_20 ⟨rfl, bk15_20⟩
                    have Bk15_20 : Bel g_14.size g_14 k15_20 := Bk15_4.trans (bk15_20.mono Bk15_4.size)
                    have zk15_20 := bk15_20.size
                    have xk15_4k15_20 := bk15_20.get (lt_of_get xk15_4) xk15_4
                    obtain ⟨k15_21, ek15_21, bk15_21, zk15_21, xk15_21, Bk15_21⟩ := alloc_step Bk15_20
                    have xk15_4k15_20k15_21 := bk15_21.get (lt_of_get xk15_4k15_20) xk15_4k15_20
                    have qk15_22 : g_14.size ≤ k15_20.size := by first | omega | (have := Bk15_21.size; omega)
                    obtain ⟨k15_22, wk15_22, xk15_22, lk15_22, Bk15_22, ok15_22⟩ := store_step (l := da) Bk15_21 xk15_21 qk15_22 lda
                    have xk15_4k15_20k15_21k15_22 := ok15_22 (k15_3.size) _ (by omega) xk15_4k15_20k15_21
                    have qk15_23 : g_14.size ≤ k15_3.size := by first | omega | (have := Bk15_22.size; omega)
                    obtain ⟨k15_23, wk15_23, xk15_23, lk15_23, Bk15_23, ok15_23⟩ := store_step (l := cb) Bk15_22 xk15_4k15_20k15_21k15_22 qk15_23 lcb
                    have xk15_22k15_23 := ok15_23 (k15_20.size) _ (by omega) xk15_22
                    simp (config := {maxSteps := 2000000, implicitDefEqProofs := false}) only [go_sem, ↓reduceIte, Nat.reduceEqDiff, Nat.reduceAdd, Nat.reduceMul, Nat.reduceLeDiff, Nat.reduceLT, Nat.reduceSub, IntWalk.iteOmega, IntWalk.toNatUp, reduceCtorEq, false_and, and_false, false_or, or_false, true_or, or_true, not_true_eq_false, not_false_eq_true, Bool.not_true, Bool.not_false, Bool.and_true, Bool.true_and, Bool.and_false, Bool.false_and, Bool.not_eq_true, beq_self_eq_true, Nat.add_zero, Int.reduceLE, Int.reduceLT, Int.reduceToNat, Int.reduceNeg, ek15_21, Bk15_21, wk15_22, Bk15_22, lk15_22, wk15_23, Bk15_23, lk15_23, n13_14, rxa_15, txa, vxa, yxa_15, n14_14, rxb_15, txb, vxb, yxb_15, n15_14, rxc_15, txc, vxc, yxc_15, n16_14, rxd_15, txd, vxd, yxd_15, Bk15_20]
                    refine ⟨Bk15_23, ⟨k15_20.size, k15_3.size, rfl, rfl, ?_, ?_, xk15_22k15_23, xk15_23⟩, fun t h1 h2 h3 => ?_⟩
                    · omega
                    · omega
                    · simp only [updo, upd]
                      repeat rw [if_neg (by omega)]
                  · refine (ccb k15_5).use ?_
                    rintro _ k15_24 ⟨rfl, bk15_24⟩
                    have Bk15_24 : Bel g_14.size g_14 k15_24 := Bk15_5.trans (bk15_24.mono Bk15_5.size)
                    have zk15_24 := bk15_24.size
                    have xk15_4k15_5k15_24 := bk15_24.get (lt_of_get xk15_4k15_5) xk15_4k15_5
                    have xk15_5k15_24 := bk15_24.get (lt_of_get xk15_5) xk15_5
                    have qk15_25 : g_14.size ≤ k15_4.size := by first | omega | (have := Bk15_24.size; omega)
                    obtain ⟨k15_25, wk15_25, xk15_25, lk15_25, Bk15_25, ok15_25⟩ := store_step (l := da) Bk15_24 xk15_5k15_24 qk15_25 lda
                    have xk15_4k15_5k15_24k15_25 := ok15_25 (k15_3.size) _ (by omega) xk15_4k15_5k15_24
                    have qk15_26 : g_14.size ≤ k15_3.size := by first | omega | (have := Bk15_25.size; omega)
                    obtain ⟨k15_26, wk15_26, xk15_26, lk15_26, Bk15_26, ok15_26⟩ := store_step (l := cb) Bk15_25 xk15_4k15_5k15_24k15_25 qk15_26 lcb
                    have xk15_25k15_26 := ok15_26 (k15_4.size) _ (by omega) xk15_25
                    simp (config := {maxSteps := 2000000, implicitDefEqProofs := false}) only [go_sem, ↓reduceIte, Nat.reduceEqDiff, Nat.reduceAdd, Nat.reduceMul, Nat.reduceLeDiff, Nat.reduceLT, Nat.reduceSub, IntWalk.iteOmega, IntWalk.toNatUp, reduceCtorEq, false_and, and_false, false_or, or_false, true_or, or_true, not_true_eq_false, not_false_eq_true, Bool.not_true, Bool.not_false, Bool.and_true, Bool.true_and, Bool.and_false, Bool.false_and, Bool.not_eq_true, beq_self_eq_true, Nat.add_zero, Int.reduceLE, Int.reduceLT, Int.reduceToNat, Int.reduceNeg, wk15_25, Bk15_25, lk15_25, wk15_26, Bk15_26, lk15_26, n13_14, rxa_15, txa, vxa, yxa_15, n14_14, rxb_15, txb, vxb, yxb_15, n15_14, rxc_15, txc, vxc, yxc_15, n16_14, rxd_15, txd, vxd, yxd_15, Bk15_24]
                    refine ⟨Bk15_26, ⟨k15_4.size, k15_3.size, rfl, rfl, ?_, ?_, xk15_25k15_26, xk15_26⟩, fun t h1 h2 h3 => ?_⟩
                    · omega
                    · omega
                    · simp only [updo, upd]
                      repeat rw [if_neg (by omega)]
            · refine ⟨?_, ?_⟩
              · refine ⟨?_, ?_⟩
                · refine (cda k15_1).use ?_
                  rintro _ k15_27 ⟨rfl, bk15_27⟩
                  have Bk15_27 : Bel g_14.size g_14 k15_27 := Bk15_1.trans (bk15_27.mono Bk15_1.size)
                  have zk15_27 := bk15_27.size
                  have xk15_1k15_27 := bk15_27.get (lt_of_get xk15_1) xk15_1
                  obtain ⟨k15_28, ek15_28, bk15_28, zk15_28, xk15_28, Bk15_28⟩ := alloc_step Bk15_27
                  have xk15_1k15_27k15_28 := bk15_28.get (lt_of_get xk15_1k15_27) xk15_1k15_27
                  simp (config := {maxSteps := 2000000, implicitDefEqProofs := false}) only [go_sem, ↓reduceIte, Nat.reduceEqDiff, Nat.reduceAdd, Nat.reduceMul, Nat.reduceLeDiff, Nat.reduceLT, Nat.reduceSub, IntWalk.iteOmega, IntWalk.toNatUp, reduceCtorEq, false_and, and_false, false_or, or_false, true_or, or_true, not_true_eq_false, not_false_eq_true, Bool.not_true, Bool.not_false, Bool.and_true, Bool.true_and, Bool.and_false, Bool.false_and, Bool.not_eq_true, beq_self_eq_true, Nat.add_zero, Int.reduceLE, Int.reduceLT, Int.reduceToNat, Int.reduceNeg, ek15_28, Bk15_28, n13_14, rxa_15, txa, vxa, yxa_15, n14_14, rxb_15, txb, vxb, yxb_15, n15_14, rxc_15, txc, vxc, yxc_15, n16_14, rxd_15, txd, vxd, yxd_15, Bk15_27]
                  refine ⟨?_, ?_⟩
                  · refine (ccb k15_27).use ?_
                    rintro _ k15_29 ⟨rfl, bk15_29⟩
                    have Bk15_29 : Bel g_14.size g_14 k15_29 := Bk15_27.trans (bk15_29.mono Bk15_27.size)
                    have zk15_29 := bk15_29.size
                    have xk15_1k15_27k15_29 := bk15_29.get (lt_of_get xk15_1k15_27) xk15_1k15_27
                    obtain ⟨k15_30, ek15_30, bk15_30, zk15_30, xk15_30, Bk15_30⟩ := alloc_step Bk15_29
                    have xk15_1k15_27k15_29k15_30 := bk15_30.get (lt_of_get xk15_1k15_27k15_29) xk15_1k15_27k15_29
                    have qk15_31 : g_14.size ≤ g_14.size := by first | omega | (have := Bk15_30.size; omega)
                    obtain ⟨k15_31, wk15_31, xk15_31, lk15_31, Bk15_31, ok15_31⟩ := store_step (l := da) Bk15_30 xk15_1k15_27k15_29k15_30 qk15_31 lda
                    have xk15_30k15_31 := ok15_31 (k15_29.size) _ (by omega) xk15_30
                    have qk15_32 : g_14.size ≤ k15_29.size := by first | omega | (have := Bk15_31.size; omega)
                    obtain ⟨k15_32, wk15_32, xk15_32, lk15_32, Bk15_32, ok15_32⟩ := store_step (l := cb) Bk15_31 xk15_30k15_31 qk15_32 lcb
                    have xk15_31k15_32 := ok15_32 (g_14.size) _ (by omega) xk15_31
                    simp (config := {maxSteps := 2000000, implicitDefEqProofs := false}) only [go_sem, ↓reduceIte, Nat.reduceEqDiff, Nat.reduceAdd, Nat.reduceMul, Nat.reduceLeDiff, Nat.reduceLT, Nat.reduceSub, IntWalk.iteOmega, IntWalk.toNatUp, reduceCtorEq, false_and, and_false, false_or, or_false, true_or, or_true, not_true_eq_false, not_false_eq_true, Bool.not_true, Bool.not_false, Bool.and_true, Bool.true_and, Bool.and_false, Bool.false_and, Bool.not_eq_true, beq_self_eq_true, Nat.add_zero, Int.reduceLE, Int.reduceLT, Int.reduceToNat, Int.reduceNeg, ek15_30, Bk15_30, wk15_31, Bk15_31, lk15_31, wk15_32, Bk15_32, lk15_32, n13_14, rxa_15, txa, vxa, yxa_15, n14_14, rxb_15, txb, vxb, yxb_15, n15_14, rxc_15, txc, vxc, yxc_15, n16_14, rxd_15, txd, vxd, yxd_15, Bk15_29]
                    refine ⟨Bk15_32, ⟨g_14.size, k15_29.size, rfl, rfl, ?_, ?_, xk15_31k15_32, xk15_32⟩, fun t h1 h2 h3 => ?_⟩
                    · omega
                    · omega
                    · simp only [updo, upd]
                      repeat rw [if_neg (by omega)]
                  · refine (ccb k15_28).use ?_
                    rintro _ k15_33 ⟨rfl, bk15_33⟩
                    have Bk15_33 : Bel g_14.size g_14 k15_33 := Bk15_28.trans (bk15_33.mono Bk15_28.size)
                    have zk15_33 := bk15_33.size
                    have xk15_1k15_27k15_28k15_33 := bk15_33.get (lt_of_get xk15_1k15_27k15_28) xk15_1k15_27k15_28
                    have xk15_28k15_33 := bk15_33.get (lt_of_get xk15_28) xk15_28
                    have qk15_34 : g_14.size ≤ g_14.size := by first | omega | (have := Bk15_33.size; omega)
                    obtain ⟨k15_34, wk15_34, xk15_34, lk15_34, Bk15_34, ok15_34⟩ := store_step (l := da) Bk15_33 xk15_1k15_27k15_28k15_33 qk15_34 lda
                    have xk15_28k15_33k15_34 := ok15_34 (k15_27.size) _ (by omega) xk15_28k15_33
                    have qk15_35 : g_14.size ≤ k15_27.size := by first | omega | (have := Bk15_34.size; omega)
                    obtain ⟨k15_35, wk15_35, xk15_35, lk15_35, Bk15_35, ok15_35⟩ := store_step (l := cb) Bk15_34 xk15_28k15_33k15_34 qk15_35 lcb
                    have xk15_34k15_35 := ok15_35 (g_14.size) _ (by omega) xk15_34
                    simp (config := {maxSteps := 2000000, implicitDefEqProofs := false}) only [go_sem, ↓reduceIte, Nat.reduceEqDiff, Nat.reduceAdd, Nat.reduceMul, Nat.reduceLeDiff, Nat.reduceLT, Nat.reduceSub, IntWalk.iteOmega, IntWalk.toNatUp, reduceCtorEq, false_and, and_false, false_or, or_false, true_or, or_true, not_true_eq_false, not_false_eq_true, Bool.not_true, Bool.not_false, Bool.and_true, Bool.true_and, Bool.and_false, Bool.false_and, Bool.not_eq_true, beq_self_eq_true, Nat.add_zero, Int.reduceLE, Int.reduceLT, Int.reduceToNat, Int.reduceNeg, wk15_34, Bk15_34, lk15_34, wk15_35, Bk15_35, lk15_35, n13_14, rxa_15, txa, vxa, yxa_15, n14_14, rxb_15, txb, vxb, yxb_15, n15_14, rxc_15, txc, vxc, yxc_15, n16_14, rxd_15, txd, vxd, yxd_15, Bk15_33]
                    refine ⟨Bk15_35, ⟨g_14.size, k15_27.size, rfl, rfl, ?_, ?_, xk15_34k15_35, xk15_35⟩, fun t h1 h2 h3 => ?_⟩
                    · omega
                    · omega
                    · simp only [updo, upd]
                      repeat rw [if_neg (by omega)]
                · refine (cda k15_2).use ?_
                  rintro _ k15_36 ⟨rfl, bk15_36⟩
                  have Bk15_36 : Bel g_14.size g_14 k15_36 := Bk15_2.trans (bk15_36.mono Bk15_2.size)
                  have zk15_36 := bk15_36.size
                  have xk15_1k15_2k15_36 := bk15_36.get (lt_of_get xk15_1k15_2) xk15_1k15_2
                  have xk15_2k15_36 := bk15_36.get (lt_of_get xk15_2) xk15_2
                  simp (config := {maxSteps := 2000000, implicitDefEqProofs := false}) only [go_sem, ↓reduceIte, Nat.reduceEqDiff, Nat.reduceAdd, Nat.reduceMul, Nat.reduceLeDiff, Nat.reduceLT, Nat.reduceSub, IntWalk.iteOmega, IntWalk.toNatUp, reduceCtorEq, false_and, and_false, false_or, or_false, true_or, or_true, not_true_eq_false, not_false_eq_true, Bool.not_true, Bool.not_false, Bool.and_true, Bool.true_and, Bool.and_false, Bool.false_and, Bool.not_eq_true, beq_self_eq_true, Nat.add_zero, Int.reduceLE, Int.reduceLT, Int.reduceToNat, Int.reduceNeg, n13_14, rxa_15, txa, vxa, yxa_15, n14_14, rxb_15, txb, vxb, yxb_15, n15_14, rxc_15, txc, vxc, yxc_15, n16_14, rxd_15, txd, vxd, yxd_15, Bk15_36]
                  refine (ccb k15_36).use ?_
                  rintro _ k15_37 ⟨rfl, bk15_37⟩
                  have Bk15_37 : Bel g_14.size g_14 k15_37 := Bk15_36.trans (bk15_37.mono Bk15_36.size)
                  have zk15_37 := bk15_37.size
                  have xk15_1k15_2k15_36k15_37 := bk15_37.get (lt_of_get xk15_1k15_2k15_36) xk15_1k15_2k15_36
                  have xk15_2k15_36k15_37 := bk15_37.get (lt_of_get xk15_2k15_36) xk15_2k15_36
                  have qk15_38 : g_14.size ≤ g_14.size := by first | omega | (have := Bk15_37.size; omega)
                  obtain ⟨k15_38, wk15_38, xk15_38, lk15_38, Bk15_38, ok15_38⟩ := store_step (l := da) Bk15_37 xk15_1k15_2k15_36k15_37 qk15_38 lda
                  have xk15_2k15_36k15_37k15_38 := ok15_38 (k15_1.size) _ (by omega) xk15_2k15_36k15_37
                  have qk15_39 : g_14.size ≤ k15_1.size := by first | omega | (have := Bk15_38.size; omega)
                  obtain ⟨k15_39, wk15_39, xk15_39, lk15_39, Bk15_39, ok15_39⟩ := store_step (l := cb) Bk15_38 xk15_2k15_36k15_37k15_38 qk15_39 lcb
                  have xk15_38k15_39 := ok15_39 (g_14.size) _ (by omega) xk15_38
                  simp (config := {maxSteps := 2000000, implicitDefEqProofs := false}) only [go_sem, ↓reduceIte, Nat.reduceEqDiff, Nat.reduceAdd, Nat.reduceMul, Nat.reduceLeDiff, Nat.reduceLT, Nat.reduceSub, IntWalk.iteOmega, IntWalk.toNatUp, reduceCtorEq, false_and, and_false, false_or, or_false, true_or, or_true, not_true_eq_false, not_false_eq_true, Bool.not_true, Bool.not_false, Bool.and_true, Bool.true_and, Bool.and_false, Bool.false_and, Bool.not_eq_true, beq_self_eq_true, Nat.add_zero, Int.reduceLE, Int.reduceLT, Int.reduceToNat, Int.reduceNeg, wk15_38, Bk15_38, lk15_38, wk15_39, Bk15_39, lk15_39, n13_14, rxa_15, txa, vxa, yxa_15, n14_14, rxb_15, txb, vxb, yxb_15, n15_14, rxc_15, txc, vxc, yxc_15, n16_14, rxd_15, txd, vxd, yxd_15, Bk15_37]
                  refine ⟨Bk15_39, ⟨g_14.size, k15_1.size, rfl, rfl, ?_, ?_, xk15_38k15_39, xk15_39⟩, fun t h1 h2 h3 => ?_⟩
                  · omega
                  · omega
                  · simp only [updo, upd]
                    repeat rw [if_neg (by omega)]
              · refine ⟨?_, ?_⟩
                · refine (cda k15_1).use ?_
                  rintro _ k15_40 ⟨rfl, bk15_40⟩
                  have Bk15_40 : Bel g_14.size g_14 k15_40 := Bk15_1.trans (bk15_40.mono Bk15_1.size)
                  have zk15_40 := bk15_40.size
                  have xk15_1k15_40 := bk15_40.get (lt_of_get xk15_1) xk15_1
                  obtain ⟨k15_41, ek15_41, bk15_41, zk15_41, xk15_41, Bk15_41⟩ := alloc_step Bk15_40
                  have xk15_1k15_40k15_41 := bk15_41.get (lt_of_get xk15_1k15_40) xk15_1k15_40
                  simp (config := {maxSteps := 2000000, implicitDefEqProofs := false}) only [go_sem, ↓reduceIte, Nat.reduceEqDiff, Nat.reduceAdd, Nat.reduceMul, Nat.reduceLeDiff, Nat.reduceLT, Nat.reduceSub, IntWalk.iteOmega, IntWalk.toNatUp, reduceCtorEq, false_and, and_false, false_or, or_false, true_or, or_true, not_true_eq_false, not_false_eq_true, Bool.not_true, Bool.not_false, Bool.and_true, Bool.true_and, Bool.and_false, Bool.false_and, Bool.not_eq_true, beq_self_eq_true, Nat.add_zero, Int.reduceLE, Int.reduceLT, Int.reduceToNat, Int.reduceNeg, ek15_41, Bk15_41, n13_14, rxa_15, txa, vxa, yxa_15, n14_14, rxb_15, txb, vxb, yxb_15, n15_14, rxc_15, txc, vxc, yxc_15, n16_14, rxd_15, txd, vxd, yxd_15, Bk15_40]
                  refine ⟨?_, ?_⟩
                  · refine (ccb k15_40).use ?_
                    rintro _ k15_42 ⟨rfl, bk15_42⟩
                    have Bk15_42 : Bel g_14.size g_14 k15_42 := Bk15_40.trans (bk15_42.mono Bk15_40.size)
                    have zk15_42 := bk15_42.size
                    have xk15_1k15_40k15_42 := bk15_42.get (lt_of_get xk15_1k15_40) xk15_1k15_40
                    obtain ⟨k15_43, ek15_43, bk15_43, zk15_43, xk15_43, Bk15_43⟩ := alloc_step Bk15_42
                    have xk15_1k15_40k15_42k15_43 := bk15_43.get (lt_of_get xk15_1k15_40k15_42) xk15_1k15_40k15_42
                    have qk15_44 : g_14.size ≤ k15_42.size := by first | omega | (have := Bk15_43.size; omega)
                    obtain ⟨k15_44, wk15_44, xk15_44, lk15_44, Bk15_44, ok15_44⟩ := store_step (l := da) Bk15_43 xk15_43 qk15_44 lda
                    have xk15_1k15_40k15_42k15_43k15_44 := ok15_44 (g_14.size) _ (by omega) xk15_1k15_40k15_42k15_43
                    have qk15_45 : g_14.size ≤ g_14.size := by first | omega | (have := Bk15_44.size; omega)
                    obtain ⟨k15_45, wk15_45, xk15_45, lk15_45, Bk15_45, ok15_45⟩ := store_step (l := cb) Bk15_44 xk15_1k15_40k15_42k15_43k15_44 qk15_45 lcb
                    have xk15_44k15_45 := ok15_45 (k15_42.size) _ (by omega) xk15_44
                    simp (config := {maxSteps := 2000000, implicitDefEqProofs := false}) only [go_sem, ↓reduceIte, Nat.reduceEqDiff, Nat.reduceAdd, Nat.reduceMul, Nat.reduceLeDiff, Nat.reduceLT, Nat.reduceSub, IntWalk.iteOmega, IntWalk.toNatUp, reduceCtorEq, false_and, and_false, false_or, or_false, true_or, or_true, not_true_eq_false, not_false_eq_true, Bool.not_true, Bool.not_false, Bool.and_true, Bool.true_and, Bool.and_false, Bool.false_and, Bool.not_eq_true, beq_self_eq_true, Nat.add_zero, Int.reduceLE, Int.reduceLT, Int.reduceToNat, Int.reduceNeg, ek15_43, Bk15_43, wk15_44, Bk15_44, lk15_44, wk15_45, Bk15_45, lk15_45, n13_14, rxa_15, txa, vxa, yxa_15, n14_14, rxb_15, txb, vxb, yxb_15, n15_14, rxc_15, txc, vxc, yxc_15, n16_14, rxd_15, txd, vxd, yxd_15, Bk15_42]
                    refine ⟨Bk15_45, ⟨k15_42.size, g_14.size, rfl, rfl, ?_, ?_, xk15_44k15_45, xk15_45⟩, fun t h1 h2 h3 => ?_⟩
                    · omega
                    · omega
                    · simp only [updo, upd]
                      repeat rw [if_neg (by omega)]
                  · refine (ccb k15_41).use ?_
                    rintro _ k15_46 ⟨rfl, bk15_46⟩
                    have Bk15_46 : Bel g_14.size g_14 k15_46 := Bk15_41.trans (bk15_46.mono Bk15_41.size)
                    have zk15_46 := bk15_46.size
                    have xk15_1k15_40k15_41k15_46 := bk15_46.get (lt_of_get xk15_1k15_40k15_41) xk15_1k15_40k15_41
                    have xk15_41k15_46 := bk15_46.get (lt_of_get xk15_41) xk15_41
                    have qk15_47 : g_14.size ≤ k15_40.size := by first | omega | (have := Bk15_46.size; omega)
                    obtain ⟨k15_47, wk15_47, xk15_47, lk15_47, Bk15_47, ok15_47⟩ := store_step (l := da) Bk15_46 xk15_41k15_46 qk15_47 lda
                    have xk15_1k15_40k15_41k15_46k15_47 := ok15_47 (g_14.size) _ (by omega) xk15_1k15_40k15_41k15_46
                    have qk15_48 : g_14.size ≤ g_14.size := by first | omega | (have := Bk15_47.size; omega)
                    obtain ⟨k15_48, wk15_48, xk15_48, lk15_48, Bk15_48, ok15_48⟩ := store_step (l := cb) Bk15_47 xk15_1k15_40k15_41k15_46k15_47 qk15_48 lcb
                    have xk15_47k15_48 := ok15_48 (k15_40.size) _ (by omega) xk15_47
                    simp (config := {maxSteps := 2000000, implicitDefEqProofs := false}) only [go_sem, ↓reduceIte, Nat.reduceEqDiff, Nat.reduceAdd, Nat.reduceMul, Nat.reduceLeDiff, Nat.reduceLT, Nat.reduceSub, IntWalk.iteOmega, IntWalk.toNatUp, reduceCtorEq, false_and, and_false, false_or, or_false, true_or, or_true, not_true_eq_false, not_false_eq_true, Bool.not_true, Bool.not_false, Bool.and_true, Bool.true_and, Bool.and_false, Bool.false_and, Bool.not_eq_true, beq_self_eq_true, Nat.add_zero, Int.reduceLE, Int.reduceLT, Int.reduceToNat, Int.reduceNeg, wk15_47, Bk15_47, lk15_47, wk15_48, Bk15_48, lk15_48, n13_14, rxa_15, txa, vxa, yxa_15, n14_14, rxb_15, txb, vxb, yxb_15, n15_14, rxc_15, txc, vxc, yxc_15, n16_14, rxd_15, txd, vxd, yxd_15, Bk15_46]
                    refine ⟨Bk15_48, ⟨k15_40.size, g_14.size, rfl, rfl, ?_, ?_, xk15_47k15_48, xk15_48⟩, fun t h1 h2 h3 => ?_⟩
                    · omega
                    · omega
                    · simp only [updo, upd]
                      repeat rw [if_neg (by omega)]
                · refine (cda k15_2).use ?_
                  rintro _ k15_49 ⟨rfl, bk15_49⟩
                  have Bk15_49 : Bel g_14.size g_14 k15_49 := Bk15_2.trans (bk15_49.mono Bk15_2.size)
                  have zk15_49 := bk15_49.size
                  have xk15_1k15_2k15_49 := bk15_49.get (lt_of_get xk15_1k15_2) xk15_1k15_2
                  have xk15_2k15_49 := bk15_49.get (lt_of_get xk15_2) xk15_2
                  simp (config := {maxSteps := 2000000, implicitDefEqProofs := false}) only [go_sem, ↓reduceIte, Nat.reduceEqDiff, Nat.reduceAdd, Nat.reduceMul, Nat.reduceLeDiff, Nat.reduceLT, Nat.reduceSub, IntWalk.iteOmega, IntWalk.toNatUp, reduceCtorEq, false_and, and_false, false_or, or_false, true_or, or_true, not_true_eq_false, not_false_eq_true, Bool.not_true, Bool.not_false, Bool.and_true, Bool.true_and, Bool.and_false, Bool.false_and, Bool.not_eq_true, beq_self_eq_true, Nat.add_zero, Int.reduceLE, Int.reduceLT, Int.reduceToNat, Int.reduceNeg, n13_14, rxa_15, txa, vxa, yxa_15, n14_14, rxb_15, txb, vxb, yxb_15, n15_14, rxc_15, txc, vxc, yxc_15, n16_14, rxd_15, txd, vxd, yxd_15, Bk15_49]
                  refine (ccb k15_49).use ?_
                  rintro _ k15_50 ⟨rfl, bk15_50⟩
                  have Bk15_50 : Bel g_14.size g_14 k15_50 := Bk15_49.trans (bk15_50.mono Bk15_49.size)
                  have zk15_50 := bk15_50.size
                  have xk15_1k15_2k15_49k15_50 := bk15_50.get (lt_of_get xk15_1k15_2k15_49) xk15_1k15_2k15_49
                  have xk15_2k15_49k15_50 := bk15_50.get (lt_of_get xk15_2k15_49) xk15_2k15_49
                  have qk15_51 : g_14.size ≤ k15_1.size := by first | omega | (have := Bk15_50.size; omega)
                  obtain ⟨k15_51, wk15_51, xk15_51, lk15_51, Bk15_51, ok15_51⟩ := store_step (l := da) Bk15_50 xk15_2k15_49k15_50 qk15_51 lda
                  have xk15_1k15_2k15_49k15_50k15_51 := ok15_51 (g_14.size) _ (by omega) xk15_1k15_2k15_49k15_50
                  have qk15_52 : g_14.size ≤ g_14.size := by first | omega | (have := Bk15_51.size; omega)
                  obtain ⟨k15_52, wk15_52, xk15_52, lk15_52, Bk15_52, ok15_52⟩ := store_step (l := cb) Bk15_51 xk15_1k15_2k15_49k15_50k15_51 qk15_52 lcb
                  have xk15_51k15_52 := ok15_52 (k15_1.size) _ (by omega) xk15_51
                  simp (config := {maxSteps := 2000000, implicitDefEqProofs := false}) only [go_sem, ↓reduceIte, Nat.reduceEqDiff, Nat.reduceAdd, Nat.reduceMul, Nat.reduceLeDiff, Nat.reduceLT, Nat.reduceSub, IntWalk.iteOmega, IntWalk.toNatUp, reduceCtorEq, false_and, and_false, false_or, or_false, true_or, or_true, not_true_eq_false, not_false_eq_true, Bool.not_true, Bool.not_false, Bool.and_true, Bool.true_and, Bool.and_false, Bool.false_and, Bool.not_eq_true, beq_self_eq_true, Nat.add_zero, Int.reduceLE, Int.reduceLT, Int.reduceToNat, Int.reduceNeg, wk15_51, Bk15_51, lk15_51, wk15_52, Bk15_52, lk15_52, n13_14, rxa_15, txa, vxa, yxa_15, n14_14, rxb_15, txb, vxb, yxb_15, n15_14, rxc_15, txc, vxc, yxc_15, n16_14, rxd_15, txd, vxd, yxd_15, Bk15_50]
                  refine ⟨Bk15_52, ⟨k15_1.size, g_14.size, rfl, rfl, ?_, ?_, xk15_51k15_52, xk15_52⟩, fun t h1 h2 h3 => ?_⟩
                  · omega
                  · omega
                  · simp only [updo, upd]
                    repeat rw [if_neg (by omega)]
          · rintro E_15 g_15 ⟨hR15, ⟨V19, V20, n19, n20, h19, h20, x19, x20⟩, keep15⟩
            have e5_15 := (keep15 5 (by omega) (by omega) (by omega)).trans e5_14
            have e6_15 := (keep15 6 (by omega) (by omega) (by omega)).trans e6_14
            have e7_15 := (keep15 7 (by omega) (by omega) (by omega)).trans e7_14
            have e8_15 := (keep15 8 (by omega) (by omega) (by omega)).trans e8_14
            have e9_15 := (keep15 9 (by omega) (by omega) (by omega)).trans e9_14
            have e10_15 := (keep15 10 (by omega) (by omega) (by omega)).trans e10_14
            have e11_15 := (keep15 11 (by omega) (by omega) (by omega)).trans e11_14
            have e12_15 := (keep15 12 (by omega) (by omega) (by omega)).trans e12_14
            have n13_15 := (keep15 13 (by omega) (by omega) (by omega)).trans n13_14
            have n14_15 := (keep15 14 (by omega) (by omega) (by omega)).trans n14_14
            have n15_15 := (keep15 15 (by omega) (by omega) (by omega)).trans n15_14
            have n16_15 := (keep15 16 (by omega) (by omega) (by omega)).trans n16_14
            have n17_15 := (keep15 17 (by omega) (by omega) (by omega)).trans n17
            have n18_15 := (keep15 18 (by omega) (by omega) (by omega)).trans n18
            have zA_15 := hR15.get (lt_of_get zA_14) zA_14
            have zB_15 := hR15.get (lt_of_get zB_14) zB_14
            have zC_15 := hR15.get (lt_of_get zC_14) zC_14
            have zD_15 := hR15.get (lt_of_get zD_14) zD_14
            have zUu_15 := hR15.get (lt_of_get zUu_14) zUu_14
            have x13_15 := hR15.get (lt_of_get x13_14) x13_14
            have x14_15 := hR15.get (lt_of_get x14_14) x14_14
            have x15_15 := hR15.get (lt_of_get x15_14) x15_14
            have x16_15 := hR15.get (lt_of_get x16_14) x16_14
            have x17_15 := hR15.get (lt_of_get x17) x17
            have x18_15 := hR15.get (lt_of_get x18) x18
            have zk2_15 := hR15.get (lt_of_get zk2_14) zk2_14
            have B_15 := B_14.trans (hR15.mono B_14.size)
            simp (config := {maxSteps := 2000000, implicitDefEqProofs := false}) only [go_sem, ↓reduceIte, Nat.reduceEqDiff, Nat.reduceAdd, Nat.reduceMul, Nat.reduceLeDiff, Nat.reduceLT, Nat.reduceSub, IntWalk.iteOmega, IntWalk.toNatUp, reduceCtorEq, false_and, and_false, false_or, or_false, true_or, or_true, not_true_eq_false, not_false_eq_true, Bool.not_true, Bool.not_false, Bool.and_true, Bool.true_and, Bool.and_false, Bool.false_and, Bool.not_eq_true, beq_self_eq_true, Nat.add_zero, Int.reduceLE, Int.reduceLT, Int.reduceToNat, Int.reduceNeg]
            obtain ⟨su, hsu⟩ : ∃ l, l = fplus da cb := ⟨_, rfl⟩
            have lsu : su.length = 16 := by rw [hsu]; unfold fplus; rw [fpl_length]; exact lda
            have wsu : InK 131148 su := by rw [hsu]; exact (fplus_in (by omega) (by omega) wda wcb).mono (by omega)
            have csu : ∀ G, CallsH Try.prog T 40 #[.agg (da.map sv).toArray, .agg (cb.map sv).toArray] G fun v' h' => v' = .agg (su.map sv).toArray ∧ Bel G.size G h' := fun G => by rw [hsu]; exact fldPlus_ok T G da cb lda lcb (wda.mono (by omega)) (wcb.mono (by omega))
            have tsu : (su.map sv).take 16 = su.map sv := List.take_of_length_le (by simp [lsu])
            have vsu : (su.map sv).length = 16 := by simp [lsu]
            obtain ⟨ga, hga⟩ : ∃ l, l = fminus da cb := ⟨_, rfl⟩
            have lga : ga.length = 16 := by rw [hga]; unfold fminus; rw [fpl_length]; exact lda
            have wga : InK 131148 ga := by rw [hga]; exact (fminus_in (by omega) (by omega) wda wcb).mono (by omega)
            have cga : ∀ G, CallsH Try.prog T 41 #[.agg (da.map sv).toArray, .agg (cb.map sv).toArray] G fun v' h' => v' = .agg (ga.map sv).toArray ∧ Bel G.size G h' := fun G => by rw [hga]; exact fldMinus_ok T G da cb lda lcb (wda.mono (by omega)) (wcb.mono (by omega))
            have tga : (ga.map sv).take 16 = ga.map sv := List.take_of_length_le (by simp [lga])
            have vga : (ga.map sv).length = 16 := by simp [lga]
            have rcb_16 := rd_fld lcb x20
            have ycb_16 := lt_of_get x20
            have rda_16 := rd_fld lda x19
            have yda_16 := lt_of_get x19
            refine VS.mono (N := RegN g_15 21 22 su ga E_15) ?_ ?_ (fun _ _ _ h => h) (fun _ _ h => h)
            · refine VS.w (g_15.size) [5, 8, 9] (.q 0 (.q 1 (.q 3 (.q 4 (.or 2 (.or 5 (.or 6 (.s 7 (.w 8 (.w 9 .nil))) (.s 7 (.s 6 (.w 8 (.w 9 .nil))))) (.or 6 (.or 5 (.s 7 (.w 8 (.w 9 .nil))) (.s 7 (.w 5 (.w 8 (.w 9 .nil))))) (.s 7 (.or 5 (.s 6 (.w 8 (.w 9 .nil))) (.s 6 (.w 5 (.w 8 (.w 9 .nil)))))))) (.or 6 (.or 2 (.or 5 (.s 7 (.w 8 (.w 9 .nil))) (.s 7 (.w 5 (.w 8 (.w 9 .nil))))) (.s 7 (.s 2 (.w 5 (.w 8 (.w 9 .nil)))))) (.s 7 (.or 2 (.or 5 (.s 6 (.w 8 (.w 9 .nil))) (.s 6 (.w 5 (.w 8 (.w 9 .nil))))) (.s 6 (.s 2 (.w 5 (.w 8 (.w 9 .nil))))))))))))) mixed (by kernel_rfl) ?_
              obtain ⟨k16_1, ek16_1, bk16_1, zk16_1, xk16_1, Bk16_1⟩ := alloc_step (Bel.refl g_15.size g_15)
              obtain ⟨k16_2, ek16_2, bk16_2, zk16_2, xk16_2, Bk16_2⟩ := alloc_step Bk16_1
              have xk16_1k16_2 := bk16_2.get (lt_of_get xk16_1) xk16_1
              simp (config := {maxSteps := 2000000, implicitDefEqProofs := false}) only [go_sem, ↓reduceIte, Nat.reduceEqDiff, Nat.reduceAdd, Nat.reduceMul, Nat.reduceLeDiff, Nat.reduceLT, Nat.reduceSub, IntWalk.iteOmega, IntWalk.toNatUp, reduceCtorEq, false_and, and_false, false_or, or_false, true_or, or_true, not_true_eq_false, not_false_eq_true, Bool.not_true, Bool.not_false, Bool.and_true, Bool.true_and, Bool.and_false, Bool.false_and, Bool.not_eq_true, beq_self_eq_true, Nat.add_zero, Int.reduceLE, Int.reduceLT, Int.reduceToNat, Int.reduceNeg, ek16_1, Bk16_1, ek16_2, Bk16_2, n20, rcb_16, tcb, vcb, ycb_16, n19, rda_16, tda, vda, yda_16]
              refine ⟨?_, ?_⟩
              · refine (csu g_15).use ?_
                rintro _ k16_3 ⟨rfl, bk16_3⟩
                have Bk16_3 : Bel g_15.size g_15 k16_3 := (Bel.refl g_15.size g_15).trans (bk16_3.mono (Bel.refl g_15.size g_15).size)
                have zk16_3 := bk16_3.size
                obtain ⟨k16_4, ek16_4, bk16_4, zk16_4, xk16_4, Bk16_4⟩ := alloc_step Bk16_3
                obtain ⟨k16_5, ek16_5, bk16_5, zk16_5, xk16_5, Bk16_5⟩ := alloc_step Bk16_4
                have xk16_4k16_5 := bk16_5.get (lt_of_get xk16_4) xk16_4
                simp (config := {maxSteps := 2000000, implicitDefEqProofs := false}) only [go_sem, ↓reduceIte, Nat.reduceEqDiff, Nat.reduceAdd, Nat.reduceMul, Nat.reduceLeDiff, Nat.reduceLT, Nat.reduceSub, IntWalk.iteOmega, IntWalk.toNatUp, reduceCtorEq, false_and, and_false, false_or, or_false, true_or, or_true, not_true_eq_false, not_false_eq_true, Bool.not_true, Bool.not_false, Bool.and_true, Bool.true_and, Bool.and_false, Bool.false_and, Bool.not_eq_true, beq_self_eq_true, Nat.add_zero, Int.reduceLE, Int.reduceLT, Int.reduceToNat, Int.reduceNeg, ek16_4, Bk16_4, ek16_5, Bk16_5, n20, rcb_16, tcb, vcb, ycb_16, n19, rda_16, tda, vda, yda_16, Bk16_3]
                refine ⟨?_, ?_⟩
                · refine (cga k16_3).use ?_
                  rintro _ k16_6 ⟨rfl, bk16_6⟩
                  have Bk16_6 : Bel g_15.size g_15 k16_6 := Bk16_3.trans (bk16_6.mono Bk16_3.size)
                  have zk16_6 := bk16_6.size
                  obtain ⟨k16_7, ek16_7, bk16_7, zk16_7, xk16_7, Bk16_7⟩ := alloc_step Bk16_6
                  obtain ⟨k16_8, ek16_8, bk16_8, zk16_8, xk16_8, Bk16_8⟩ := alloc_step Bk16_7
                  have xk16_7k16_8 := bk16_8.get (lt_of_get xk16_7) xk16_7
                  have qk16_9 : g_15.size ≤ k16_7.size := by first | omega | (have := Bk16_8.size; omega)
                  obtain ⟨k16_9, wk16_9, xk16_9, lk16_9, Bk16_9, ok16_9⟩ := store_step (l := su) Bk16_8 xk16_8 qk16_9 lsu
                  have xk16_7k16_8k16_9 := ok16_9 (k16_6.size) _ (by omega) xk16_7k16_8
                  have qk16_10 : g_15.size ≤ k16_6.size := by first | omega | (have := Bk16_9.size; omega)
                  obtain ⟨k16_10, wk16_10, xk16_10, lk16_10, Bk16_10, ok16_10⟩ := store_step (l := ga) Bk16_9 xk16_7k16_8k16_9 qk16_10 lga
                  have xk16_9k16_10 := ok16_10 (k16_7.size) _ (by omega) xk16_9
                  have qk16_11 : g_15.size ≤ k16_6.size := by first | omega | (have := Bk16_8.size; omega)
                  obtain ⟨k16_11, wk16_11, xk16_11, lk16_11, Bk16_11, ok16_11⟩ := store_step (l := su) Bk16_8 xk16_7k16_8 qk16_11 lsu
                  have xk16_8k16_11 := ok16_11 (k16_7.size) _ (by omega) xk16_8
                  have qk16_12 : g_15.size ≤ k16_7.size := by first | omega | (have := Bk16_11.size; omega)
                  obtain ⟨k16_12, wk16_12, xk16_12, lk16_12, Bk16_12, ok16_12⟩ := store_step (l := ga) Bk16_11 xk16_8k16_11 qk16_12 lga
                  have xk16_11k16_12 := ok16_12 (k16_6.size) _ (by omega) xk16_11
                  simp (config := {maxSteps := 2000000, implicitDefEqProofs := false}) only [go_sem, ↓reduceIte, Nat.reduceEqDiff, Nat.reduceAdd, Nat.reduceMul, Nat.reduceLeDiff, Nat.reduceLT, Nat.reduceSub, IntWalk.iteOmega, IntWalk.toNatUp, reduceCtorEq, false_and, and_false, false_or, or_false, true_or, or_true, not_true_eq_false, not_false_eq_true, Bool.not_true, Bool.not_false, Bool.and_true, Bool.true_and, Bool.and_false, Bool.false_and, Bool.not_eq_true, beq_self_eq_true, Nat.add_zero, Int.reduceLE, Int.reduceLT, Int.reduceToNat, Int.reduceNeg, ek16_7, Bk16_7, ek16_8, Bk16_8, wk16_9, Bk16_9, lk16_9, wk16_10, Bk16_10, lk16_10, wk16_11, Bk16_11, lk16_11, wk16_12, Bk16_12, lk16_12, n20, rcb_16, tcb, vcb, ycb_16, n19, rda_16, tda, vda, yda_16, Bk16_6]
                  refine ⟨?_, ?_⟩
                  · refine ⟨Bk16_12, ⟨k16_6.size, k16_7.size, rfl, rfl, ?_, ?_, xk16_11k16_12, xk16_12⟩, fun t h1 h2 h3 => ?_⟩
                    · omega
                    · omega
                    · simp only [updo, upd]
                      repeat rw [if_neg (by omega)]
                  · refine ⟨Bk16_10, ⟨k16_7.size, k16_6.size, rfl, rfl, ?_, ?_, xk16_9k16_10, xk16_10⟩, fun t h1 h2 h3 => ?_⟩
                    · omega
                    · omega
                    · simp only [updo, upd]
                      repeat rw [if_neg (by omega)]
                · refine ⟨?_, ?_⟩
                  · refine ⟨?_, ?_⟩
                    · refine (cga k16_4).use ?_
                      rintro _ k16_13 ⟨rfl, bk16_13⟩
                      have Bk16_13 : Bel g_15.size g_15 k16_13 := Bk16_4.trans (bk16_13.mono Bk16_4.size)
                      have zk16_13 := bk16_13.size
                      have xk16_4k16_13 := bk16_13.get (lt_of_get xk16_4) xk16_4
                      obtain ⟨k16_14, ek16_14, bk16_14, zk16_14, xk16_14, Bk16_14⟩ := alloc_step Bk16_13
                      have xk16_4k16_13k16_14 := bk16_14.get (lt_of_get xk16_4k16_13) xk16_4k16_13
                      have qk16_15 : g_15.size ≤ k16_3.size := by first | omega | (have := Bk16_14.size; omega)
                      obtain ⟨k16_15, wk16_15, xk16_15, lk16_15, Bk16_15, ok16_15⟩ := store_step (l := su) Bk16_14 xk16_4k16_13k16_14 qk16_15 lsu
                      have xk16_14k16_15 := ok16_15 (k16_13.size) _ (by omega) xk16_14
                      have qk16_16 : g_15.size ≤ k16_13.size := by first | omega | (have := Bk16_15.size; omega)
                      obtain ⟨k16_16, wk16_16, xk16_16, lk16_16, Bk16_16, ok16_16⟩ := store_step (l := ga) Bk16_15 xk16_14k16_15 qk16_16 lga
                      have xk16_15k16_16 := ok16_16 (k16_3.size) _ (by omega) xk16_15
                      simp (config := {maxSteps := 2000000, implicitDefEqProofs := false}) only [go_sem, ↓reduceIte, Nat.reduceEqDiff, Nat.reduceAdd, Nat.reduceMul, Nat.reduceLeDiff, Nat.reduceLT, Nat.reduceSub, IntWalk.iteOmega, IntWalk.toNatUp, reduceCtorEq, false_and, and_false, false_or, or_false, true_or, or_true, not_true_eq_false, not_false_eq_true, Bool.not_true, Bool.not_false, Bool.and_true, Bool.true_and, Bool.and_false, Bool.false_and, Bool.not_eq_true, beq_self_eq_true, Nat.add_zero, Int.reduceLE, Int.reduceLT, Int.reduceToNat, Int.reduceNeg, ek16_14, Bk16_14, wk16_15, Bk16_15, lk16_15, wk16_16, Bk16_16, lk16_16, n20, rcb_16, tcb, vcb, ycb_16, n19, rda_16, tda, vda, yda_16, Bk16_13]
                      refine ⟨Bk16_16, ⟨k16_3.size, k16_13.size, rfl, rfl, ?_, ?_, xk16_15k16_16, xk16_16⟩, fun t h1 h2 h3 => ?_⟩
                      · omega
                      · omega
                      · simp only [updo, upd]
                        repeat rw [if_neg (by omega)]
                    · refine (cga k16_5).use ?_
                      rintro _ k16_17 ⟨rfl, bk16_17⟩
                      have Bk16_17 : Bel g_15.size g_15 k16_17 := Bk16_5.trans (bk16_17.mono Bk16_5.size)
                      have zk16_17 := bk16_17.size
                      have xk16_4k16_5k16_17 := bk16_17.get (lt_of_get xk16_4k16_5) xk16_4k16_5
                      have xk16_5k16_17 := bk16_17.get (lt_of_get xk16_5) xk16_5
                      have qk16_18 : g_15.size ≤ k16_3.size := by first | omega | (have := Bk16_17.size; omega)
                      obtain ⟨k16_18, wk16_18, xk16_18, lk16_18, Bk16_18, ok16_18⟩ := store_step (l := su) Bk16_17 xk16_4k16_5k16_17 qk16_18 lsu
                      have xk16_5k16_17k16_18 := ok16_18 (k16_4.size) _ (by omega) xk16_5k16_17
                      have qk16_19 : g_15.size ≤ k16_4.size := by first | omega | (have := Bk16_18.size; omega)
                      obtain ⟨k16_19, wk16_19, xk16_19, lk16_19, Bk16_19, ok16_19⟩ := store_step (l := ga) Bk16_18 xk16_5k16_17k16_18 qk16_19 lga
                      have xk16_18k16_19 := ok16_19 (k16_3.size) _ (by omega) xk16_18
                      simp (config := {maxSteps := 2000000, implicitDefEqProofs := false}) only [go_sem, ↓reduceIte, Nat.reduceEqDiff, Nat.reduceAdd, Nat.reduceMul, Nat.reduceLeDiff, Nat.reduceLT, Nat.reduceSub, IntWalk.iteOmega, IntWalk.toNatUp, reduceCtorEq, false_and, and_false, false_or, or_false, true_or, or_true, not_true_eq_false, not_false_eq_true, Bool.not_true, Bool.not_false, Bool.and_true, Bool.true_and, Bool.and_false, Bool.false_and, Bool.not_eq_true, beq_self_eq_true, Nat.add_zero, Int.reduceLE, Int.reduceLT, Int.reduceToNat, Int.reduceNeg, wk16_18, Bk16_18, lk16_18, wk16_19, Bk16_19, lk16_19, n20, rcb_16, tcb, vcb, ycb_16, n19, rda_16, tda, vda, yda_16, Bk16_17]
                      refine ⟨Bk16_19, ⟨k16_3.size, k16_4.size, rfl, rfl, ?_, ?_, xk16_18k16_19, xk16_19⟩, fun t h1 h2 h3 => ?_⟩
                      · omega
                      · omega
                      · simp only [updo, upd]
                        repeat rw [if_neg (by omega)]
                  · refine ⟨?_, ?_⟩
                    · refine (cga k16_4).use ?_
                      rintro _ k16_20 ⟨rfl, bk16_20⟩
                      have Bk16_20 : Bel g_15.size g_15 k16_20 := Bk16_4.trans (bk16_20.mono Bk16_4.size)
                      have zk16_20 := bk16_20.size
                      have xk16_4k16_20 := bk16_20.get (lt_of_get xk16_4) xk16_4
                      obtain ⟨k16_21, ek16_21, bk16_21, zk16_21, xk16_21, Bk16_21⟩ := alloc_step Bk16_20
                      have xk16_4k16_20k16_21 := bk16_21.get (lt_of_get xk16_4k16_20) xk16_4k16_20
                      have qk16_22 : g_15.size ≤ k16_20.size := by first | omega | (have := Bk16_21.size; omega)
                      obtain ⟨k16_22, wk16_22, xk16_22, lk16_22, Bk16_22, ok16_22⟩ := store_step (l := su) Bk16_21 xk16_21 qk16_22 lsu
                      have xk16_4k16_20k16_21k16_22 := ok16_22 (k16_3.size) _ (by omega) xk16_4k16_20k16_21
                      have qk16_23 : g_15.size ≤ k16_3.size := by first | omega | (have := Bk16_22.size; omega)
                      obtain ⟨k16_23, wk16_23, xk16_23, lk16_23, Bk16_23, ok16_23⟩ := store_step (l := ga) Bk16_22 xk16_4k16_20k16_21k16_22 qk16_23 lga
                      have xk16_22k16_23 := ok16_23 (k16_20.size) _ (by omega) xk16_22
                      simp (config := {maxSteps := 2000000, implicitDefEqProofs := false}) only [go_sem, ↓reduceIte, Nat.reduceEqDiff, Nat.reduceAdd, Nat.reduceMul, Nat.reduceLeDiff, Nat.reduceLT, Nat.reduceSub, IntWalk.iteOmega, IntWalk.toNatUp, reduceCtorEq, false_and, and_false, false_or, or_false, true_or, or_true, not_true_eq_false, not_false_eq_true, Bool.not_true, Bool.not_false, Bool.and_true, Bool.true_and, Bool.and_false, Bool.false_and, Bool.not_eq_true, beq_self_eq_true, Nat.add_zero, Int.reduceLE, Int.reduceLT, Int.reduceToNat, Int.reduceNeg, ek16_21, Bk16_21, wk16_22, Bk16_22, lk16_22, wk16_23, Bk16_23, lk16_23, n20, rcb_16, tcb, vcb, ycb_16, n19, rda_16, tda, vda, yda_16, Bk16_20]
                      refine ⟨Bk16_23, ⟨k16_20.size, k16_3.size, rfl, rfl, ?_, ?_, xk16_22k16_23, xk16_23⟩, fun t h1 h2 h3 => ?_⟩
                      · omega
                      · omega
                      · simp only [updo, upd]
                        repeat rw [if_neg (by omega)]
                    · refine (cga k16_5).use ?_
                      rintro _ k16_24 ⟨rfl, bk16_24⟩
                      have Bk16_24 : Bel g_15.size g_15 k16_24 := Bk16_5.trans (bk16_24.mono Bk16_5.size)
                      have zk16_24 := bk16_24.size
                      have xk16_4k16_5k16_24 := bk16_24.get (lt_of_get xk16_4k16_5) xk16_4k16_5
                      have xk16_5k16_24 := bk16_24.get (lt_of_get xk16_5) xk16_5
                      have qk16_25 : g_15.size ≤ k16_4.size := by first | omega | (have := Bk16_24.size; omega)
                      obtain ⟨k16_25, wk16_25, xk16_25, lk16_25, Bk16_25, ok16_25⟩ := store_step (l := su) Bk16_24 xk16_5k16_24 qk16_25 lsu
                      have xk16_4k16_5k16_24k16_25 := ok16_25 (k16_3.size) _ (by omega) xk16_4k16_5k16_24
                      have qk16_26 : g_15.size ≤ k16_3.size := by first | omega | (have := Bk16_25.size; omega)
                      obtain ⟨k16_26, wk16_26, xk16_26, lk16_26, Bk16_26, ok16_26⟩ := store_step (l := ga) Bk16_25 xk16_4k16_5k16_24k16_25 qk16_26 lga
                      have xk16_25k16_26 := ok16_26 (k16_4.size) _ (by omega) xk16_25
                      simp (config := {maxSteps := 2000000, implicitDefEqProofs := false}) only [go_sem, ↓reduceIte, Nat.reduceEqDiff, Nat.reduceAdd, Nat.reduceMul, Nat.reduceLeDiff, Nat.reduceLT, Nat.reduceSub, IntWalk.iteOmega, IntWalk.toNatUp, reduceCtorEq, false_and, and_false, false_or, or_false, true_or, or_true, not_true_eq_false, not_false_eq_true, Bool.not_true, Bool.not_false, Bool.and_true, Bool.true_and, Bool.and_false, Bool.false_and, Bool.not_eq_true, beq_self_eq_true, Nat.add_zero, Int.reduceLE, Int.reduceLT, Int.reduceToNat, Int.reduceNeg, wk16_25, Bk16_25, lk16_25, wk16_26, Bk16_26, lk16_26, n20, rcb_16, tcb, vcb, ycb_16, n19, rda_16, tda, vda, yda_16, Bk16_24]
                      refine ⟨Bk16_26, ⟨k16_4.size, k16_3.size, rfl, rfl, ?_, ?_, xk16_25k16_26, xk16_26⟩, fun t h1 h2 h3 => ?_⟩
                      · omega
                      · omega
                      · simp only [updo, upd]
                        repeat rw [if_neg (by omega)]
              · refine ⟨?_, ?_⟩
                · refine ⟨?_, ?_⟩
                  · refine (csu k16_1).use ?_
                    rintro _ k16_27 ⟨rfl, bk16_27⟩
                    have Bk16_27 : Bel g_15.size g_15 k16_27 := Bk16_1.trans (bk16_27.mono Bk16_1.size)
                    have zk16_27 := bk16_27.size
                    have xk16_1k16_27 := bk16_27.get (lt_of_get xk16_1) xk16_1
                    obtain ⟨k16_28, ek16_28, bk16_28, zk16_28, xk16_28, Bk16_28⟩ := alloc_step Bk16_27
                    have xk16_1k16_27k16_28 := bk16_28.get (lt_of_get xk16_1k16_27) xk16_1k16_27
                    simp (config := {maxSteps := 2000000, implicitDefEqProofs := false}) only [go_sem, ↓reduceIte, Nat.reduceEqDiff, Nat.reduceAdd, Nat.reduceMul, Nat.reduceLeDiff, Nat.reduceLT, Nat.reduceSub, IntWalk.iteOmega, IntWalk.toNatUp, reduceCtorEq, false_and, and_false, false_or, or_false, true_or, or_true, not_true_eq_false, not_false_eq_true, Bool.not_true, Bool.not_false, Bool.and_true, Bool.true_and, Bool.and_false, Bool.false_and, Bool.not_eq_true, beq_self_eq_true, Nat.add_zero, Int.reduceLE, Int.reduceLT, Int.reduceToNat, Int.reduceNeg, ek16_28, Bk16_28, n20, rcb_16, tcb, vcb, ycb_16, n19, rda_16, tda, vda, yda_16, Bk16_27]
                    refine ⟨?_, ?_⟩
                    · refine (cga k16_27).use ?_
                      rintro _ k16_29 ⟨rfl, bk16_29⟩
                      have Bk16_29 : Bel g_15.size g_15 k16_29 := Bk16_27.trans (bk16_29.mono Bk16_27.size)
                      have zk16_29 := bk16_29.size
                      have xk16_1k16_27k16_29 := bk16_29.get (lt_of_get xk16_1k16_27) xk16_1k16_27
                      obtain ⟨k16_30, ek16_30, bk16_30, zk16_30, xk16_30, Bk16_30⟩ := alloc_step Bk16_29
                      have xk16_1k16_27k16_29k16_30 := bk16_30.get (lt_of_get xk16_1k16_27k16_29) xk16_1k16_27k16_29
                      have qk16_31 : g_15.size ≤ g_15.size := by first | omega | (have := Bk16_30.size; omega)
                      obtain ⟨k16_31, wk16_31, xk16_31, lk16_31, Bk16_31, ok16_31⟩ := store_step (l := su) Bk16_30 xk16_1k16_27k16_29k16_30 qk16_31 lsu
                      have xk16_30k16_31 := ok16_31 (k16_29.size) _ (by omega) xk16_30
                      have qk16_32 : g_15.size ≤ k16_29.size := by first | omega | (have := Bk16_31.size; omega)
                      obtain ⟨k16_32, wk16_32, xk16_32, lk16_32, Bk16_32, ok16_32⟩ := store_step (l := ga) Bk16_31 xk16_30k16_31 qk16_32 lga
                      have xk16_31k16_32 := ok16_32 (g_15.size) _ (by omega) xk16_31
                      simp (config := {maxSteps := 2000000, implicitDefEqProofs := false}) only [go_sem, ↓reduceIte, Nat.reduceEqDiff, Nat.reduceAdd, Nat.reduceMul, Nat.reduceLeDiff, Nat.reduceLT, Nat.reduceSub, IntWalk.iteOmega, IntWalk.toNatUp, reduceCtorEq, false_and, and_false, false_or, or_false, true_or, or_true, not_true_eq_false, not_false_eq_true, Bool.not_true, Bool.not_false, Bool.and_true, Bool.true_and, Bool.and_false, Bool.false_and, Bool.not_eq_true, beq_self_eq_true, Nat.add_zero, Int.reduceLE, Int.reduceLT, Int.reduceToNat, Int.reduceNeg, ek16_30, Bk16_30, wk16_31, Bk16_31, lk16_31, wk16_32, Bk16_32, lk16_32, n20, rcb_16, tcb, vcb, ycb_16, n19, rda_16, tda, vda, yda_16, Bk16_29]
                      refine ⟨Bk16_32, ⟨g_15.size, k16_29.size, rfl, rfl, ?_, ?_, xk16_31k16_32, xk16_32⟩, fun t h1 h2 h3 => ?_⟩
                      · omega
                      · omega
                      · simp only [updo, upd]
                        repeat rw [if_neg (by omega)]
                    · refine (cga k16_28).use ?_
                      rintro _ k16_33 ⟨rfl, bk16_33⟩
                      have Bk16_33 : Bel g_15.size g_15 k16_33 := Bk16_28.trans (bk16_33.mono Bk16_28.size)
                      have zk16_33 := bk16_33.size
                      have xk16_1k16_27k16_28k16_33 := bk16_33.get (lt_of_get xk16_1k16_27k16_28) xk16_1k16_27k16_28
                      have xk16_28k16_33 := bk16_33.get (lt_of_get xk16_28) xk16_28
                      have qk16_34 : g_15.size ≤ g_15.size := by first | omega | (have := Bk16_33.size; omega)
                      obtain ⟨k16_34, wk16_34, xk16_34, lk16_34, Bk16_34, ok16_34⟩ := store_step (l := su) Bk16_33 xk16_1k16_27k16_28k16_33 qk16_34 lsu
                      have xk16_28k16_33k16_34 := ok16_34 (k16_27.size) _ (by omega) xk16_28k16_33
                      have qk16_35 : g_15.size ≤ k16_27.size := by first | omega | (have := Bk16_34.size; omega)
                      obtain ⟨k16_35, wk16_35, xk16_35, lk16_35, Bk16_35, ok16_35⟩ := store_step (l := ga) Bk16_34 xk16_28k16_33k16_34 qk16_35 lga
                      have xk16_34k16_35 := ok16_35 (g_15.size) _ (by omega) xk16_34
                      simp (config := {maxSteps := 2000000, implicitDefEqProofs := false}) only [go_sem, ↓reduceIte, Nat.reduceEqDiff, Nat.reduceAdd, Nat.reduceMul, Nat.reduceLeDiff, Nat.reduceLT, Nat.reduceSub, IntWalk.iteOmega, IntWalk.toNatUp, reduceCtorEq, false_and, and_false, false_or, or_false, true_or, or_true, not_true_eq_false, not_false_eq_true, Bool.not_true, Bool.not_false, Bool.and_true, Bool.true_and, Bool.and_false, Bool.false_and, Bool.not_eq_true, beq_self_eq_true, Nat.add_zero, Int.reduceLE, Int.reduceLT, Int.reduceToNat, Int.reduceNeg, wk16_34, Bk16_34, lk16_34, wk16_35, Bk16_35, lk16_35, n20, rcb_16, tcb, vcb, ycb_16, n19, rda_16, tda, vda, yda_16, Bk16_33]
                      refine ⟨Bk16_35, ⟨g_15.size, k16_27.size, rfl, rfl, ?_, ?_, xk16_34k16_35, xk16_35⟩, fun t h1 h2 h3 => ?_⟩
                      · omega
                      · omega
                      · simp only [updo, upd]
                        repeat rw [if_neg (by omega)]
                  · refine (csu k16_2).use ?_
                    rintro _ k16_36 ⟨rfl, bk16_36⟩
                    have Bk16_36 : Bel g_15.size g_15 k16_36 := Bk16_2.trans (bk16_36.mono Bk16_2.size)
                    have zk16_36 := bk16_36.size
                    have xk16_1k16_2k16_36 := bk16_36.get (lt_of_get xk16_1k16_2) xk16_1k16_2
                    have xk16_2k16_36 := bk16_36.get (lt_of_get xk16_2) xk16_2
                    simp (config := {maxSteps := 2000000, implicitDefEqProofs := false}) only [go_sem, ↓reduceIte, Nat.reduceEqDiff, Nat.reduceAdd, Nat.reduceMul, Nat.reduceLeDiff, Nat.reduceLT, Nat.reduceSub, IntWalk.iteOmega, IntWalk.toNatUp, reduceCtorEq, false_and, and_false, false_or, or_false, true_or, or_true, not_true_eq_false, not_false_eq_true, Bool.not_true, Bool.not_false, Bool.and_true, Bool.true_and, Bool.and_false, Bool.false_and, Bool.not_eq_true, beq_self_eq_true, Nat.add_zero, Int.reduceLE, Int.reduceLT, Int.reduceToNat, Int.reduceNeg, n20, rcb_16, tcb, vcb, ycb_16, n19, rda_16, tda, vda, yda_16, Bk16_36]
                    refine (cga k16_36).use ?_
                    rintro _ k16_37 ⟨rfl, bk16_37⟩
                    have Bk16_37 : Bel g_15.size g_15 k16_37 := Bk16_36.trans (bk16_37.mono Bk16_36.size)
                    have zk16_37 := bk16_37.size
                    have xk16_1k16_2k16_36k16_37 := bk16_37.get (lt_of_get xk16_1k16_2k16_36) xk16_1k16_2k16_36
                    have xk16_2k16_36k16_37 := bk16_37.get (lt_of_get xk16_2k16_36) xk16_2k16_36
                    have qk16_38 : g_15.size ≤ g_15.size := by first | omega | (have := Bk16_37.size; omega)
                    obtain ⟨k16_38, wk16_38, xk16_38, lk16_38, Bk16_38, ok16_38⟩ := store_step (l := su) Bk16_37 xk16_1k16_2k16_36k16_37 qk16_38 lsu
                    have xk16_2k16_36k16_37k16_38 := ok16_38 (k16_1.size) _ (by omega) xk16_2k16_36k16_37
                    have qk16_39 : g_15.size ≤ k16_1.size := by first | omega | (have := Bk16_38.size; omega)
                    obtain ⟨k16_39, wk16_39, xk16_39, lk16_39, Bk16_39, ok16_39⟩ := store_step (l := ga) Bk16_38 xk16_2k16_36k16_37k16_38 qk16_39 lga
                    have xk16_38k16_39 := ok16_39 (g_15.size) _ (by omega) xk16_38
                    simp (config := {maxSteps := 2000000, implicitDefEqProofs := false}) only [go_sem, ↓reduceIte, Nat.reduceEqDiff, Nat.reduceAdd, Nat.reduceMul, Nat.reduceLeDiff, Nat.reduceLT, Nat.reduceSub, IntWalk.iteOmega, IntWalk.toNatUp, reduceCtorEq, false_and, and_false, false_or, or_false, true_or, or_true, not_true_eq_false, not_false_eq_true, Bool.not_true, Bool.not_false, Bool.and_true, Bool.true_and, Bool.and_false, Bool.false_and, Bool.not_eq_true, beq_self_eq_true, Nat.add_zero, Int.reduceLE, Int.reduceLT, Int.reduceToNat, Int.reduceNeg, wk16_38, Bk16_38, lk16_38, wk16_39, Bk16_39, lk16_39, n20, rcb_16, tcb, vcb, ycb_16, n19, rda_16, tda, vda, yda_16, Bk16_37]
                    refine ⟨Bk16_39, ⟨g_15.size, k16_1.size, rfl, rfl, ?_, ?_, xk16_38k16_39, xk16_39⟩, fun t h1 h2 h3 => ?_⟩
                    · omega
                    · omega
                    · simp only [updo, upd]
                      repeat rw [if_neg (by omega)]
                · refine ⟨?_, ?_⟩
                  · refine (csu k16_1).use ?_
                    rintro _ k16_40 ⟨rfl, bk16_40⟩
                    have Bk16_40 : Bel g_15.size g_15 k16_40 := Bk16_1.trans (bk16_40.mono Bk16_1.size)
                    have zk16_40 := bk16_40.size
                    have xk16_1k16_40 := bk16_40.get (lt_of_get xk16_1) xk16_1
                    obtain ⟨k16_41, ek16_41, bk16_41, zk16_41, xk16_41, Bk16_41⟩ := alloc_step Bk16_40
                    have xk16_1k16_40k16_41 := bk16_41.get (lt_of_get xk16_1k16_40) xk16_1k16_40
                    simp (config := {maxSteps := 2000000, implicitDefEqProofs := false}) only [go_sem, ↓reduceIte, Nat.reduceEqDiff, Nat.reduceAdd, Nat.reduceMul, Nat.reduceLeDiff, Nat.reduceLT, Nat.reduceSub, IntWalk.iteOmega, IntWalk.toNatUp, reduceCtorEq, false_and, and_false, false_or, or_false, true_or, or_true, not_true_eq_false, not_false_eq_true, Bool.not_true, Bool.not_false, Bool.and_true, Bool.true_and, Bool.and_false, Bool.false_and, Bool.not_eq_true, beq_self_eq_true, Nat.add_zero, Int.reduceLE, Int.reduceLT, Int.reduceToNat, Int.reduceNeg, ek16_41, Bk16_41, n20, rcb_16, tcb, vcb, ycb_16, n19, rda_16, tda, vda, yda_16, Bk16_40]
                    refine ⟨?_, ?_⟩
                    · refine (cga k16_40).use ?_
                      rintro _ k16_42 ⟨rfl, bk16_42⟩
                      have Bk16_42 : Bel g_15.size g_15 k16_42 := Bk16_40.trans (bk16_42.mono Bk16_40.size)
                      have zk16_42 := bk16_42.size
                      have xk16_1k16_40k16_42 := bk16_42.get (lt_of_get xk16_1k16_40) xk16_1k16_40
                      obtain ⟨k16_43, ek16_43, bk16_43, zk16_43, xk16_43, Bk16_43⟩ := alloc_step Bk16_42
                      have xk16_1k16_40k16_42k16_43 := bk16_43.get (lt_of_get xk16_1k16_40k16_42) xk16_1k16_40k16_42
                      have qk16_44 : g_15.size ≤ k16_42.size := by first | omega | (have := Bk16_43.size; omega)
                      obtain ⟨k16_44, wk16_44, xk16_44, lk16_44, Bk16_44, ok16_44⟩ := store_step (l := su) Bk16_43 xk16_43 qk16_44 lsu
                      have xk16_1k16_40k16_42k16_43k16_44 := ok16_44 (g_15.size) _ (by omega) xk16_1k16_40k16_42k16_43
                      have qk16_45 : g_15.size ≤ g_15.size := by first | omega | (have := Bk16_44.size; omega)
                      obtain ⟨k16_45, wk16_45, xk16_45, lk16_45, Bk16_45, ok16_45⟩ := store_step (l := ga) Bk16_44 xk16_1k16_40k16_42k16_43k16_44 qk16_45 lga
                      have xk16_44k16_45 := ok16_45 (k16_42.size) _ (by omega) xk16_44
                      simp (config := {maxSteps := 2000000, implicitDefEqProofs := false}) only [go_sem, ↓reduceIte, Nat.reduceEqDiff, Nat.reduceAdd, Nat.reduceMul, Nat.reduceLeDiff, Nat.reduceLT, Nat.reduceSub, IntWalk.iteOmega, IntWalk.toNatUp, reduceCtorEq, false_and, and_false, false_or, or_false, true_or, or_true, not_true_eq_false, not_false_eq_true, Bool.not_true, Bool.not_false, Bool.and_true, Bool.true_and, Bool.and_false, Bool.false_and, Bool.not_eq_true, beq_self_eq_true, Nat.add_zero, Int.reduceLE, Int.reduceLT, Int.reduceToNat, Int.reduceNeg, ek16_43, Bk16_43, wk16_44, Bk16_44, lk16_44, wk16_45, Bk16_45, lk16_45, n20, rcb_16, tcb, vcb, ycb_16, n19, rda_16, tda, vda, yda_16, Bk16_42]
                      refine ⟨Bk16_45, ⟨k16_42.size, g_15.size, rfl, rfl, ?_, ?_, xk16_44k16_45, xk16_45⟩, fun t h1 h2 h3 => ?_⟩
                      · omega
                      · omega
                      · simp only [updo, upd]
                        repeat rw [if_neg (by omega)]
                    · refine (cga k16_41).use ?_
                      rintro _ k16_46 ⟨rfl, bk16_46⟩
                      have Bk16_46 : Bel g_15.size g_15 k16_46 := Bk16_41.trans (bk16_46.mono Bk16_41.size)
                      have zk16_46 := bk16_46.size
                      have xk16_1k16_40k16_41k16_46 := bk16_46.get (lt_of_get xk16_1k16_40k16_41) xk16_1k16_40k16_41
                      have xk16_41k16_46 := bk16_46.get (lt_of_get xk16_41) xk16_41
                      have qk16_47 : g_15.size ≤ k16_40.size := by first | omega | (have := Bk16_46.size; omega)
                      obtain ⟨k16_47, wk16_47, xk16_47, lk16_47, Bk16_47, ok16_47⟩ := store_step (l := su) Bk16_46 xk16_41k16_46 qk16_47 lsu
                      have xk16_1k16_40k16_41k16_46k16_47 := ok16_47 (g_15.size) _ (by omega) xk16_1k16_40k16_41k16_46
                      have qk16_48 : g_15.size ≤ g_15.size := by first | omega | (have := Bk16_47.size; omega)
                      obtain ⟨k16_48, wk16_48, xk16_48, lk16_48, Bk16_48, ok16_48⟩ := store_step (l := ga) Bk16_47 xk16_1k16_40k16_41k16_46k16_47 qk16_48 lga
                      have xk16_47k16_48 := ok16_48 (k16_40.size) _ (by omega) xk16_47
                      simp (config := {maxSteps := 2000000, implicitDefEqProofs := false}) only [go_sem, ↓reduceIte, Nat.reduceEqDiff, Nat.reduceAdd, Nat.reduceMul, Nat.reduceLeDiff, Nat.reduceLT, Nat.reduceSub, IntWalk.iteOmega, IntWalk.toNatUp, reduceCtorEq, false_and, and_false, false_or, or_false, true_or, or_true, not_true_eq_false, not_false_eq_true, Bool.not_true, Bool.not_false, Bool.and_true, Bool.true_and, Bool.and_false, Bool.false_and, Bool.not_eq_true, beq_self_eq_true, Nat.add_zero, Int.reduceLE, Int.reduceLT, Int.reduceToNat, Int.reduceNeg, wk16_47, Bk16_47, lk16_47, wk16_48, Bk16_48, lk16_48, n20, rcb_16, tcb, vcb, ycb_16, n19, rda_16, tda, vda, yda_16, Bk16_46]
                      refine ⟨Bk16_48, ⟨k16_40.size, g_15.size, rfl, rfl, ?_, ?_, xk16_47k16_48, xk16_48⟩, fun t h1 h2 h3 => ?_⟩
                      · omega
                      · omega
                      · simp only [updo, upd]
                        repeat rw [if_neg (by omega)]
                  · refine (csu k16_2).use ?_
                    rintro _ k16_49 ⟨rfl, bk16_49⟩
                    have Bk16_49 : Bel g_15.size g_15 k16_49 := Bk16_2.trans (bk16_49.mono Bk16_2.size)
                    have zk16_49 := bk16_49.size
                    have xk16_1k16_2k16_49 := bk16_49.get (lt_of_get xk16_1k16_2) xk16_1k16_2
                    have xk16_2k16_49 := bk16_49.get (lt_of_get xk16_2) xk16_2
                    simp (config := {maxSteps := 2000000, implicitDefEqProofs := false}) only [go_sem, ↓reduceIte, Nat.reduceEqDiff, Nat.reduceAdd, Nat.reduceMul, Nat.reduceLeDiff, Nat.reduceLT, Nat.reduceSub, IntWalk.iteOmega, IntWalk.toNatUp, reduceCtorEq, false_and, and_false, false_or, or_false, true_or, or_true, not_true_eq_false, not_false_eq_true, Bool.not_true, Bool.not_false, Bool.and_true, Bool.true_and, Bool.and_false, Bool.false_and, Bool.not_eq_true, beq_self_eq_true, Nat.add_zero, Int.reduceLE, Int.reduceLT, Int.reduceToNat, Int.reduceNeg, n20, rcb_16, tcb, vcb, ycb_16, n19, rda_16, tda, vda, yda_16, Bk16_49]
                    refine (cga k16_49).use ?_
                    rintro _ k16_50 ⟨rfl, bk16_50⟩
                    have Bk16_50 : Bel g_15.size g_15 k16_50 := Bk16_49.trans (bk16_50.mono Bk16_49.size)
                    have zk16_50 := bk16_50.size
                    have xk16_1k16_2k16_49k16_50 := bk16_50.get (lt_of_get xk16_1k16_2k16_49) xk16_1k16_2k16_49
                    have xk16_2k16_49k16_50 := bk16_50.get (lt_of_get xk16_2k16_49) xk16_2k16_49
                    have qk16_51 : g_15.size ≤ k16_1.size := by first | omega | (have := Bk16_50.size; omega)
                    obtain ⟨k16_51, wk16_51, xk16_51, lk16_51, Bk16_51, ok16_51⟩ := store_step (l := su) Bk16_50 xk16_2k16_49k16_50 qk16_51 lsu
                    have xk16_1k16_2k16_49k16_50k16_51 := ok16_51 (g_15.size) _ (by omega) xk16_1k16_2k16_49k16_50
                    have qk16_52 : g_15.size ≤ g_15.size := by first | omega | (have := Bk16_51.size; omega)
                    obtain ⟨k16_52, wk16_52, xk16_52, lk16_52, Bk16_52, ok16_52⟩ := store_step (l := ga) Bk16_51 xk16_1k16_2k16_49k16_50k16_51 qk16_52 lga
                    have xk16_51k16_52 := ok16_52 (k16_1.size) _ (by omega) xk16_51
                    simp (config := {maxSteps := 2000000, implicitDefEqProofs := false}) only [go_sem, ↓reduceIte, Nat.reduceEqDiff, Nat.reduceAdd, Nat.reduceMul, Nat.reduceLeDiff, Nat.reduceLT, Nat.reduceSub, IntWalk.iteOmega, IntWalk.toNatUp, reduceCtorEq, false_and, and_false, false_or, or_false, true_or, or_true, not_true_eq_false, not_false_eq_true, Bool.not_true, Bool.not_false, Bool.and_true, Bool.true_and, Bool.and_false, Bool.false_and, Bool.not_eq_true, beq_self_eq_true, Nat.add_zero, Int.reduceLE, Int.reduceLT, Int.reduceToNat, Int.reduceNeg, wk16_51, Bk16_51, lk16_51, wk16_52, Bk16_52, lk16_52, n20, rcb_16, tcb, vcb, ycb_16, n19, rda_16, tda, vda, yda_16, Bk16_50]
                    refine ⟨Bk16_52, ⟨k16_1.size, g_15.size, rfl, rfl, ?_, ?_, xk16_51k16_52, xk16_52⟩, fun t h1 h2 h3 => ?_⟩
                    · omega
                    · omega
                    · simp only [updo, upd]
                      repeat rw [if_neg (by omega)]
            · rintro E_16 g_16 ⟨hR16, ⟨V21, V22, n21, n22, h21, h22, x21, x22⟩, keep16⟩
              have e5_16 := (keep16 5 (by omega) (by omega) (by omega)).trans e5_15
              have e6_16 := (keep16 6 (by omega) (by omega) (by omega)).trans e6_15
              have e7_16 := (keep16 7 (by omega) (by omega) (by omega)).trans e7_15
              have e8_16 := (keep16 8 (by omega) (by omega) (by omega)).trans e8_15
              have e9_16 := (keep16 9 (by omega) (by omega) (by omega)).trans e9_15
              have e10_16 := (keep16 10 (by omega) (by omega) (by omega)).trans e10_15
              have e11_16 := (keep16 11 (by omega) (by omega) (by omega)).trans e11_15
              have e12_16 := (keep16 12 (by omega) (by omega) (by omega)).trans e12_15
              have n13_16 := (keep16 13 (by omega) (by omega) (by omega)).trans n13_15
              have n14_16 := (keep16 14 (by omega) (by omega) (by omega)).trans n14_15
              have n15_16 := (keep16 15 (by omega) (by omega) (by omega)).trans n15_15
              have n16_16 := (keep16 16 (by omega) (by omega) (by omega)).trans n16_15
              have n17_16 := (keep16 17 (by omega) (by omega) (by omega)).trans n17_15
              have n18_16 := (keep16 18 (by omega) (by omega) (by omega)).trans n18_15
              have n19_16 := (keep16 19 (by omega) (by omega) (by omega)).trans n19
              have n20_16 := (keep16 20 (by omega) (by omega) (by omega)).trans n20
              have zA_16 := hR16.get (lt_of_get zA_15) zA_15
              have zB_16 := hR16.get (lt_of_get zB_15) zB_15
              have zC_16 := hR16.get (lt_of_get zC_15) zC_15
              have zD_16 := hR16.get (lt_of_get zD_15) zD_15
              have zUu_16 := hR16.get (lt_of_get zUu_15) zUu_15
              have x13_16 := hR16.get (lt_of_get x13_15) x13_15
              have x14_16 := hR16.get (lt_of_get x14_15) x14_15
              have x15_16 := hR16.get (lt_of_get x15_15) x15_15
              have x16_16 := hR16.get (lt_of_get x16_15) x16_15
              have x17_16 := hR16.get (lt_of_get x17_15) x17_15
              have x18_16 := hR16.get (lt_of_get x18_15) x18_15
              have x19_16 := hR16.get (lt_of_get x19) x19
              have x20_16 := hR16.get (lt_of_get x20) x20
              have zk2_16 := hR16.get (lt_of_get zk2_15) zk2_15
              have B_16 := B_15.trans (hR16.mono B_15.size)
              simp (config := {maxSteps := 2000000, implicitDefEqProofs := false}) only [go_sem, ↓reduceIte, Nat.reduceEqDiff, Nat.reduceAdd, Nat.reduceMul, Nat.reduceLeDiff, Nat.reduceLT, Nat.reduceSub, IntWalk.iteOmega, IntWalk.toNatUp, reduceCtorEq, false_and, and_false, false_or, or_false, true_or, or_true, not_true_eq_false, not_false_eq_true, Bool.not_true, Bool.not_false, Bool.and_true, Bool.true_and, Bool.and_false, Bool.false_and, Bool.not_eq_true, beq_self_eq_true, Nat.add_zero, Int.reduceLE, Int.reduceLT, Int.reduceToNat, Int.reduceNeg]
              obtain ⟨ee, hee⟩ : ∃ l, l = fminus aa bb := ⟨_, rfl⟩
              have lee : ee.length = 16 := by rw [hee]; unfold fminus; rw [fpl_length]; exact laa
              have wee : InK 131148 ee := by rw [hee]; exact (fminus_in (by omega) (by omega) waa wbb).mono (by omega)
              have tee : (ee.map sv).take 16 = ee.map sv := List.take_of_length_le (by simp [lee])
              have vee : (ee.map sv).length = 16 := by simp [lee]
              have raa17 := rd_fld laa x17_16
              have rbb17 := rd_fld lbb x18_16
              simp (config := {maxSteps := 2000000, implicitDefEqProofs := false}) only [go_sem, ↓reduceIte, Nat.reduceEqDiff, Nat.reduceAdd, Nat.reduceMul, Nat.reduceLeDiff, Nat.reduceLT, Nat.reduceSub, IntWalk.iteOmega, IntWalk.toNatUp, reduceCtorEq, false_and, and_false, false_or, or_false, true_or, or_true, not_true_eq_false, not_false_eq_true, Bool.not_true, Bool.not_false, Bool.and_true, Bool.true_and, Bool.and_false, Bool.false_and, Bool.not_eq_true, beq_self_eq_true, Nat.add_zero, Int.reduceLE, Int.reduceLT, Int.reduceToNat, Int.reduceNeg, n17_16, n18_16, raa17, rbb17, taa, vaa, tbb, vbb]
              have cee := fldMinus_ok T g_16 aa bb laa lbb (waa.mono (by omega)) (wbb.mono (by omega))
              rw [← hee] at cee
              refine cee.use ?_
              rintro _ g17 ⟨rfl, b17⟩
              obtain ⟨g18, hg18⟩ : ∃ g : Hp, g = g17.push (fldC ee) := ⟨_, rfl⟩
              have eg18 : g17.push (.cells (ee.map sv).toArray 65) = g18 := hg18.symm
              have b18 : Bel g17.size g17 g18 := by rw [hg18]; exact Bel.push (Nat.le_refl _) _
              have x23 : g18[g17.size]? = some (fldC ee) := by rw [hg18]; exact get_push_last
              clear hg18
              have oee : (ee.map sv).all oneC = true := by simp [sv, oneC]
              have pee : lput [Value.int .i64 0, .int .i64 0, .int .i64 0, .int .i64 0, .int .i64 0, .int .i64 0, .int .i64 0, .int .i64 0, .int .i64 0, .int .i64 0, .int .i64 0, .int .i64 0, .int .i64 0, .int .i64 0, .int .i64 0, .int .i64 0] 0 (ee.map sv) = ee.map sv := lput_full (by simp [lee])
              have hz17 : g_16.size ≤ g17.size := b17.size
              have B_17 := (B_16.trans (b17.mono B_16.size)).trans (b18.mono (by have := B_16.size; omega))
              have zUu_17 := b18.get (Nat.lt_of_lt_of_le (lt_of_get zUu_16) b17.size) (b17.get (lt_of_get zUu_16) zUu_16)
              have x17_17 := b18.get (Nat.lt_of_lt_of_le (lt_of_get x17_16) b17.size) (b17.get (lt_of_get x17_16) x17_16)
              have x18_17 := b18.get (Nat.lt_of_lt_of_le (lt_of_get x18_16) b17.size) (b17.get (lt_of_get x18_16) x18_16)
              have x21_17 := b18.get (Nat.lt_of_lt_of_le (lt_of_get x21) b17.size) (b17.get (lt_of_get x21) x21)
              have x22_17 := b18.get (Nat.lt_of_lt_of_le (lt_of_get x22) b17.size) (b17.get (lt_of_get x22) x22)
              have zA_17 := b18.get (Nat.lt_of_lt_of_le (lt_of_get zA_16) b17.size) (b17.get (lt_of_get zA_16) zA_16)
              have zB_17 := b18.get (Nat.lt_of_lt_of_le (lt_of_get zB_16) b17.size) (b17.get (lt_of_get zB_16) zB_16)
              have zC_17 := b18.get (Nat.lt_of_lt_of_le (lt_of_get zC_16) b17.size) (b17.get (lt_of_get zC_16) zC_16)
              have zD_17 := b18.get (Nat.lt_of_lt_of_le (lt_of_get zD_16) b17.size) (b17.get (lt_of_get zD_16) zD_16)
              have zk2_17 := b18.get (Nat.lt_of_lt_of_le (lt_of_get zk2_16) b17.size) (b17.get (lt_of_get zk2_16) zk2_16)
              simp (config := {maxSteps := 2000000, implicitDefEqProofs := false}) only [go_sem, ↓reduceIte, Nat.reduceEqDiff, Nat.reduceAdd, Nat.reduceMul, Nat.reduceLeDiff, Nat.reduceLT, Nat.reduceSub, IntWalk.iteOmega, IntWalk.toNatUp, reduceCtorEq, false_and, and_false, false_or, or_false, true_or, or_true, not_true_eq_false, not_false_eq_true, Bool.not_true, Bool.not_false, Bool.and_true, Bool.true_and, Bool.and_false, Bool.false_and, Bool.not_eq_true, beq_self_eq_true, Nat.add_zero, Int.reduceLE, Int.reduceLT, Int.reduceToNat, Int.reduceNeg, eg18, vee, tee, oee, pee]
              refine vs_gen fun E17 hE17 => ?_
              have u5 : E17 5 = .slice (some ⟨bk, 0, none⟩) 32 c1 := by rw [hE17]; exact e5_16
              have u6 : E17 6 = .pointer (some ⟨U, 0, none⟩) := by rw [hE17]; exact e6_16
              have u7 : E17 7 = .pointer (some ⟨A, 0, none⟩) := by rw [hE17]; exact e7_16
              have u8 : E17 8 = .pointer (some ⟨B, 0, none⟩) := by rw [hE17]; exact e8_16
              have u9 : E17 9 = .pointer (some ⟨C, 0, none⟩) := by rw [hE17]; exact e9_16
              have u10 : E17 10 = .pointer (some ⟨D, 0, none⟩) := by rw [hE17]; exact e10_16
              have u11 : E17 11 = .int .i64 (i : Int) := by rw [hE17]; exact e11_16
              have u12 : E17 12 = .int .i64 bo := by rw [hE17]; exact e12_16
              have u13 : E17 13 = .pointer (some ⟨V13, 0, none⟩) := by rw [hE17]; exact n13_16
              have u14 : E17 14 = .pointer (some ⟨V14, 0, none⟩) := by rw [hE17]; exact n14_16
              have u15 : E17 15 = .pointer (some ⟨V15, 0, none⟩) := by rw [hE17]; exact n15_16
              have u16 : E17 16 = .pointer (some ⟨V16, 0, none⟩) := by rw [hE17]; exact n16_16
              have u17 : E17 17 = .pointer (some ⟨V17, 0, none⟩) := by rw [hE17]; exact n17_16
              have u18 : E17 18 = .pointer (some ⟨V18, 0, none⟩) := by rw [hE17]; exact n18_16
              have u19 : E17 19 = .pointer (some ⟨V19, 0, none⟩) := by rw [hE17]; exact n19_16
              have u20 : E17 20 = .pointer (some ⟨V20, 0, none⟩) := by rw [hE17]; exact n20_16
              have u21 : E17 21 = .pointer (some ⟨V21, 0, none⟩) := by rw [hE17]; exact n21
              have u22 : E17 22 = .pointer (some ⟨V22, 0, none⟩) := by rw [hE17]; exact n22
              have u23 : E17 23 = .pointer (some ⟨g17.size, 0, none⟩) := by rw [hE17]; rfl
              clear hE17
              obtain ⟨x3n, hx3n⟩ : ∃ l, l = ftimes su su := ⟨_, rfl⟩
              have kx3n := fok_times (wsu.mono (show _ ≤ (524288 : Int) by omega)) (wsu.mono (show _ ≤ (524288 : Int) by omega))
              rw [← hx3n] at kx3n
              obtain ⟨lx3n, wx3n⟩ := kx3n
              have cx3n : ∀ G, CallsH Try.prog T 42 #[.agg (su.map sv).toArray, .agg (su.map sv).toArray] G fun v' h' => v' = .agg (x3n.map sv).toArray ∧ Bel G.size G h' := fun G => by rw [hx3n]; exact fldTimes_ok T G su su lsu lsu (wsu.mono (by omega)) (wsu.mono (by omega))
              have tx3n : (x3n.map sv).take 16 = x3n.map sv := List.take_of_length_le (by simp [lx3n])
              have vx3n : (x3n.map sv).length = 16 := by simp [lx3n]
              obtain ⟨gg, hgg⟩ : ∃ l, l = ftimes ga ga := ⟨_, rfl⟩
              have kgg := fok_times (wga.mono (show _ ≤ (524288 : Int) by omega)) (wga.mono (show _ ≤ (524288 : Int) by omega))
              rw [← hgg] at kgg
              obtain ⟨lgg, wgg⟩ := kgg
              have cgg : ∀ G, CallsH Try.prog T 42 #[.agg (ga.map sv).toArray, .agg (ga.map sv).toArray] G fun v' h' => v' = .agg (gg.map sv).toArray ∧ Bel G.size G h' := fun G => by rw [hgg]; exact fldTimes_ok T G ga ga lga lga (wga.mono (by omega)) (wga.mono (by omega))
              have tgg : (gg.map sv).take 16 = gg.map sv := List.take_of_length_le (by simp [lgg])
              have vgg : (gg.map sv).length = 16 := by simp [lgg]
              obtain ⟨z3n, hz3n⟩ : ∃ l, l = ftimes gg uu := ⟨_, rfl⟩
              have kz3n := fok_times (wgg.mono (show _ ≤ (524288 : Int) by omega)) (wuu.mono (show _ ≤ (524288 : Int) by omega))
              rw [← hz3n] at kz3n
              obtain ⟨lz3n, wz3n⟩ := kz3n
              have cz3n : ∀ G, CallsH Try.prog T 42 #[.agg (gg.map sv).toArray, .agg (uu.map sv).toArray] G fun v' h' => v' = .agg (z3n.map sv).toArray ∧ Bel G.size G h' := fun G => by rw [hz3n]; exact fldTimes_ok T G gg uu lgg luu (wgg.mono (by omega)) (wuu.mono (by omega))
              have tz3n : (z3n.map sv).take 16 = z3n.map sv := List.take_of_length_le (by simp [lz3n])
              have vz3n : (z3n.map sv).length = 16 := by simp [lz3n]
              have rsu18 := rd_fld lsu x21_17
              have rga18 := rd_fld lga x22_17
              have ruu18 := rd_fld lu zUu_17
              have ysu18 := lt_of_get x21_17
              have yga18 := lt_of_get x22_17
              have yuu18 := lt_of_get zUu_17
              have zC18 := zC_17
              have zD18 := zD_17
              refine VS.mono (N := fun F' g' => (∀ t, t < 24 → F' t = E17 t) ∧ ∃ g20, Bel g18.size g18 g20 ∧ g' = (g20.setIfInBounds C (fldC x3n)).setIfInBounds D (fldC z3n)) ?_ ?_ (fun _ _ _ h => h) (fun _ _ h => h)
              · refine VS.w (g18.size) [7, 8, 9] (.q 0 (.q 1 (.q 3 (.q 4 (.q 6 (.s 2 (.s 5 (.w 7 (.w 8 (.w 9 .nil)))))))))) mixed (by kernel_rfl) ?_
                simp (config := {maxSteps := 2000000, implicitDefEqProofs := false}) only [go_sem, ↓reduceIte, Nat.reduceEqDiff, Nat.reduceAdd, Nat.reduceMul, Nat.reduceLeDiff, Nat.reduceLT, Nat.reduceSub, IntWalk.iteOmega, IntWalk.toNatUp, reduceCtorEq, false_and, and_false, false_or, or_false, true_or, or_true, not_true_eq_false, not_false_eq_true, Bool.not_true, Bool.not_false, Bool.and_true, Bool.true_and, Bool.and_false, Bool.false_and, Bool.not_eq_true, beq_self_eq_true, Nat.add_zero, Int.reduceLE, Int.reduceLT, Int.reduceToNat, Int.reduceNeg, u21, u22, u6, rsu18, rga18, ruu18, ysu18, yga18, yuu18, tsu, vsu, tga, vga, tu, lvu]
                refine (cx3n g18).use ?_
                rintro _ g19 ⟨rfl, b19⟩
                simp (config := {maxSteps := 2000000, implicitDefEqProofs := false}) only [go_sem, ↓reduceIte, Nat.reduceEqDiff, Nat.reduceAdd, Nat.reduceMul, Nat.reduceLeDiff, Nat.reduceLT, Nat.reduceSub, IntWalk.iteOmega, IntWalk.toNatUp, reduceCtorEq, false_and, and_false, false_or, or_false, true_or, or_true, not_true_eq_false, not_false_eq_true, Bool.not_true, Bool.not_false, Bool.and_true, Bool.true_and, Bool.and_false, Bool.false_and, Bool.not_eq_true, beq_self_eq_true, Nat.add_zero, Int.reduceLE, Int.reduceLT, Int.reduceToNat, Int.reduceNeg, b19]
                refine (cgg g19).use ?_
                rintro _ g20 ⟨rfl, b20⟩
                have B20 : Bel g18.size g18 g20 := b19.trans (b20.mono b19.size)
                simp (config := {maxSteps := 2000000, implicitDefEqProofs := false}) only [go_sem, ↓reduceIte, Nat.reduceEqDiff, Nat.reduceAdd, Nat.reduceMul, Nat.reduceLeDiff, Nat.reduceLT, Nat.reduceSub, IntWalk.iteOmega, IntWalk.toNatUp, reduceCtorEq, false_and, and_false, false_or, or_false, true_or, or_true, not_true_eq_false, not_false_eq_true, Bool.not_true, Bool.not_false, Bool.and_true, Bool.true_and, Bool.and_false, Bool.false_and, Bool.not_eq_true, beq_self_eq_true, Nat.add_zero, Int.reduceLE, Int.reduceLT, Int.reduceToNat, Int.reduceNeg, B20]
                refine (cz3n g20).use ?_
                rintro _ g21 ⟨rfl, b21⟩
                have B21 : Bel g18.size g18 g21 := B20.trans (b21.mono B20.size)
                have zC21 := B21.get (lt_of_get zC18) zC18
                have zD21 := B21.get (lt_of_get zD18) zD18
                have w1 := wr_fld (s := x3n) zC21 lX3 lx3n
                have zD22 : (g21.setIfInBounds C (fldC x3n))[D]? = some (fldC Z3) := by rw [get_set_ne nCD]; exact zD21
                have w2 := wr_fld (s := z3n) zD22 lZ3 lz3n
                have q1 := lt_of_get zC21
                have q2 := lt_of_get zD21
                simp (config := {maxSteps := 2000000, implicitDefEqProofs := false}) only [go_sem, ↓reduceIte, Nat.reduceEqDiff, Nat.reduceAdd, Nat.reduceMul, Nat.reduceLeDiff, Nat.reduceLT, Nat.reduceSub, IntWalk.iteOmega, IntWalk.toNatUp, reduceCtorEq, false_and, and_false, false_or, or_false, true_or, or_true, not_true_eq_false, not_false_eq_true, Bool.not_true, Bool.not_false, Bool.and_true, Bool.true_and, Bool.and_false, Bool.false_and, Bool.not_eq_true, beq_self_eq_true, Nat.add_zero, Int.reduceLE, Int.reduceLT, Int.reduceToNat, Int.reduceNeg, u9, u10, w1, w2, q1, q2, tx3n, vx3n, tz3n, vz3n]
                refine ⟨fun t ht => ?_, g21, B21, rfl⟩
                try simp only [updo, upd]
                repeat rw [if_neg (by omega)]
              · rintro E18 g24 ⟨keep18, g23, b23, hg24⟩
                have y5 := (keep18 5 (by omega)).trans u5
                have y6 := (keep18 6 (by omega)).trans u6
                have y7 := (keep18 7 (by omega)).trans u7
                have y8 := (keep18 8 (by omega)).trans u8
                have y9 := (keep18 9 (by omega)).trans u9
                have y10 := (keep18 10 (by omega)).trans u10
                have y11 := (keep18 11 (by omega)).trans u11
                have y12 := (keep18 12 (by omega)).trans u12
                have y13 := (keep18 13 (by omega)).trans u13
                have y14 := (keep18 14 (by omega)).trans u14
                have y15 := (keep18 15 (by omega)).trans u15
                have y16 := (keep18 16 (by omega)).trans u16
                have y17 := (keep18 17 (by omega)).trans u17
                have y18 := (keep18 18 (by omega)).trans u18
                have y19 := (keep18 19 (by omega)).trans u19
                have y20 := (keep18 20 (by omega)).trans u20
                have y21 := (keep18 21 (by omega)).trans u21
                have y22 := (keep18 22 (by omega)).trans u22
                have y23 := (keep18 23 (by omega)).trans u23
                have zC23 := b23.get (lt_of_get zC_17) zC_17
                have zD23 := b23.get (lt_of_get zD_17) zD_17
                obtain ⟨zC24, zD24, zx24⟩ := two_set (o1 := fldC x3n) (o2 := fldC z3n) nCD zC23 zD23
                rw [← hg24] at zC24 zD24 zx24
                have s12 := hR12.size
                have s13 := hR13.size
                have s14 := hR14.size
                have s15 := hR15.size
                have s16 := hR16.size
                have zaa24 := (zx24 (V17) (by omega) (by omega)).trans (b23.get (lt_of_get x17_17) x17_17)
                have zbb24 := (zx24 (V18) (by omega) (by omega)).trans (b23.get (lt_of_get x18_17) x18_17)
                have zee24 := (zx24 (g17.size) (by omega) (by omega)).trans (b23.get (lt_of_get x23) x23)
                have zA24 := (zx24 (A) (by omega) (by omega)).trans (b23.get (lt_of_get zA_17) zA_17)
                have zB24 := (zx24 (B) (by omega) (by omega)).trans (b23.get (lt_of_get zB_17) zB_17)
                have zU24 := (zx24 (U) (by omega) (by omega)).trans (b23.get (lt_of_get zUu_17) zUu_17)
                have zk24 := (zx24 bk (by omega) (by omega)).trans (b23.get (lt_of_get zk2_17) zk2_17)
                have B24 : Bel h.size h g24 := by rw [hg24]; exact ((B_17.trans (b23.mono B_17.size)).addSet (by omega) _).addSet (by omega) _
                clear hg24
                obtain ⟨x2n, hx2n⟩ : ∃ l, l = ftimes aa bb := ⟨_, rfl⟩
                have kx2n := fok_times (waa.mono (show _ ≤ (524288 : Int) by omega)) (wbb.mono (show _ ≤ (524288 : Int) by omega))
                rw [← hx2n] at kx2n
                obtain ⟨lx2n, wx2n⟩ := kx2n
                have cx2n : ∀ G, CallsH Try.prog T 42 #[.agg (aa.map sv).toArray, .agg (bb.map sv).toArray] G fun v' h' => v' = .agg (x2n.map sv).toArray ∧ Bel G.size G h' := fun G => by rw [hx2n]; exact fldTimes_ok T G aa bb laa lbb (waa.mono (by omega)) (wbb.mono (by omega))
                have tx2n : (x2n.map sv).take 16 = x2n.map sv := List.take_of_length_le (by simp [lx2n])
                have vx2n : (x2n.map sv).length = 16 := by simp [lx2n]
                have lk16 : k16.length = 16 := rfl
                have wk16 : InK 65574 k16 := by unfold k16; intro x hx; simp at hx; omega
                obtain ⟨ek, hek⟩ : ∃ l, l = ftimes ee k16 := ⟨_, rfl⟩
                have kek := fok_times (wee.mono (show _ ≤ (524288 : Int) by omega)) (wk16.mono (show _ ≤ (524288 : Int) by omega))
                rw [← hek] at kek
                obtain ⟨lek, wek⟩ := kek
                have cek : ∀ G, CallsH Try.prog T 42 #[.agg (ee.map sv).toArray, .agg (k16.map sv).toArray] G fun v' h' => v' = .agg (ek.map sv).toArray ∧ Bel G.size G h' := fun G => by rw [hek]; exact fldTimes_ok T G ee k16 lee lk16 (wee.mono (by omega)) (wk16.mono (by omega))
                have tek : (ek.map sv).take 16 = ek.map sv := List.take_of_length_le (by simp [lek])
                have vek : (ek.map sv).length = 16 := by simp [lek]
                have vk16 : k16.map sv = [.int .i64 56129, .int .i64 1, .int .i64 0, .int .i64 0, .int .i64 0, .int .i64 0, .int .i64 0, .int .i64 0, .int .i64 0, .int .i64 0, .int .i64 0, .int .i64 0, .int .i64 0, .int .i64 0, .int .i64 0, .int .i64 0] := rfl
                rw [vk16] at cek
                obtain ⟨ap, hap⟩ : ∃ l, l = fplus aa ek := ⟨_, rfl⟩
                have lap : ap.length = 16 := by rw [hap]; unfold fplus; rw [fpl_length]; exact laa
                have wap : InK 131148 ap := by rw [hap]; exact (fplus_in (by omega) (by omega) waa wek).mono (by omega)
                have tap : (ap.map sv).take 16 = ap.map sv := List.take_of_length_le (by simp [lap])
                have vap : (ap.map sv).length = 16 := by simp [lap]
                have cap : ∀ G, CallsH Try.prog T 40 #[.agg (aa.map sv).toArray, .agg (ek.map sv).toArray] G fun v' h' => v' = .agg (ap.map sv).toArray ∧ Bel G.size G h' := fun G => by rw [hap]; exact fldPlus_ok T G aa ek laa lek (waa.mono (by omega)) (wek.mono (by omega))
                obtain ⟨z2n, hz2n⟩ : ∃ l, l = ftimes ee ap := ⟨_, rfl⟩
                have kz2n := fok_times (wee.mono (show _ ≤ (524288 : Int) by omega)) (wap.mono (show _ ≤ (524288 : Int) by omega))
                rw [← hz2n] at kz2n
                obtain ⟨lz2n, wz2n⟩ := kz2n
                have cz2n : ∀ G, CallsH Try.prog T 42 #[.agg (ee.map sv).toArray, .agg (ap.map sv).toArray] G fun v' h' => v' = .agg (z2n.map sv).toArray ∧ Bel G.size G h' := fun G => by rw [hz2n]; exact fldTimes_ok T G ee ap lee lap (wee.mono (by omega)) (wap.mono (by omega))
                have tz2n : (z2n.map sv).take 16 = z2n.map sv := List.take_of_length_le (by simp [lz2n])
                have vz2n : (z2n.map sv).length = 16 := by simp [lz2n]
                have raa19 := rd_fld laa zaa24
                have rbb19 := rd_fld lbb zbb24
                have ree19 := rd_fld lee zee24
                have jaa := lt_of_get zaa24
                have jbb := lt_of_get zbb24
                have jee := lt_of_get zee24
                refine VS.mono (N := fun F' g' => (∀ t, t < 24 → F' t = E18 t) ∧ ∃ g28, Bel g24.size g24 g28 ∧ g' = (g28.setIfInBounds A (fldC x2n)).setIfInBounds B (fldC z2n)) ?_ ?_ (fun _ _ _ h => h) (fun _ _ h => h)
                · refine VS.w (g24.size) [9, 10, 11] (.q 0 (.q 1 (.q 3 (.q 4 (.q 5 (.q 6 (.s 2 (.s 7 (.s 8 (.w 9 (.w 10 (.w 11 .nil)))))))))))) mixed (by kernel_rfl) ?_
                  simp (config := {maxSteps := 2000000, implicitDefEqProofs := false}) only [go_sem, ↓reduceIte, Nat.reduceEqDiff, Nat.reduceAdd, Nat.reduceMul, Nat.reduceLeDiff, Nat.reduceLT, Nat.reduceSub, IntWalk.iteOmega, IntWalk.toNatUp, reduceCtorEq, false_and, and_false, false_or, or_false, true_or, or_true, not_true_eq_false, not_false_eq_true, Bool.not_true, Bool.not_false, Bool.and_true, Bool.true_and, Bool.and_false, Bool.false_and, Bool.not_eq_true, beq_self_eq_true, Nat.add_zero, Int.reduceLE, Int.reduceLT, Int.reduceToNat, Int.reduceNeg, y17, y18, y23, raa19, rbb19, ree19, jaa, jbb, jee, taa, vaa, tbb, vbb, tee, vee]
                  refine (cx2n g24).use ?_
                  rintro _ g25 ⟨rfl, b25⟩
                  simp (config := {maxSteps := 2000000, implicitDefEqProofs := false}) only [go_sem, ↓reduceIte, Nat.reduceEqDiff, Nat.reduceAdd, Nat.reduceMul, Nat.reduceLeDiff, Nat.reduceLT, Nat.reduceSub, IntWalk.iteOmega, IntWalk.toNatUp, reduceCtorEq, false_and, and_false, false_or, or_false, true_or, or_true, not_true_eq_false, not_false_eq_true, Bool.not_true, Bool.not_false, Bool.and_true, Bool.true_and, Bool.and_false, Bool.false_and, Bool.not_eq_true, beq_self_eq_true, Nat.add_zero, Int.reduceLE, Int.reduceLT, Int.reduceToNat, Int.reduceNeg, b25]
                  refine (cek g25).use ?_
                  rintro _ g26 ⟨rfl, b26⟩
                  have B26 : Bel g24.size g24 g26 := b25.trans (b26.mono b25.size)
                  simp (config := {maxSteps := 2000000, implicitDefEqProofs := false}) only [go_sem, ↓reduceIte, Nat.reduceEqDiff, Nat.reduceAdd, Nat.reduceMul, Nat.reduceLeDiff, Nat.reduceLT, Nat.reduceSub, IntWalk.iteOmega, IntWalk.toNatUp, reduceCtorEq, false_and, and_false, false_or, or_false, true_or, or_true, not_true_eq_false, not_false_eq_true, Bool.not_true, Bool.not_false, Bool.and_true, Bool.true_and, Bool.and_false, Bool.false_and, Bool.not_eq_true, beq_self_eq_true, Nat.add_zero, Int.reduceLE, Int.reduceLT, Int.reduceToNat, Int.reduceNeg, B26]
                  refine (cap g26).use ?_
                  rintro _ g27 ⟨rfl, b27⟩
                  have B27 : Bel g24.size g24 g27 := B26.trans (b27.mono B26.size)
                  simp (config := {maxSteps := 2000000, implicitDefEqProofs := false}) only [go_sem, ↓reduceIte, Nat.reduceEqDiff, Nat.reduceAdd, Nat.reduceMul, Nat.reduceLeDiff, Nat.reduceLT, Nat.reduceSub, IntWalk.iteOmega, IntWalk.toNatUp, reduceCtorEq, false_and, and_false, false_or, or_false, true_or, or_true, not_true_eq_false, not_false_eq_true, Bool.not_true, Bool.not_false, Bool.and_true, Bool.true_and, Bool.and_false, Bool.false_and, Bool.not_eq_true, beq_self_eq_true, Nat.add_zero, Int.reduceLE, Int.reduceLT, Int.reduceToNat, Int.reduceNeg, B27]
                  refine (cz2n g27).use ?_
                  rintro _ g28 ⟨rfl, b28⟩
                  have B28 : Bel g24.size g24 g28 := B27.trans (b28.mono B27.size)
                  have zA28 := B28.get (lt_of_get zA24) zA24
                  have zB28 := B28.get (lt_of_get zB24) zB24
                  have w1 := wr_fld (s := x2n) zA28 lX2 lx2n
                  have zB29 : (g28.setIfInBounds A (fldC x2n))[B]? = some (fldC Z2) := by rw [get_set_ne nAB]; exact zB28
                  have w2 := wr_fld (s := z2n) zB29 lZ2 lz2n
                  have q1 := lt_of_get zA28
                  have q2 := lt_of_get zB28
                  simp (config := {maxSteps := 2000000, implicitDefEqProofs := false}) only [go_sem, ↓reduceIte, Nat.reduceEqDiff, Nat.reduceAdd, Nat.reduceMul, Nat.reduceLeDiff, Nat.reduceLT, Nat.reduceSub, IntWalk.iteOmega, IntWalk.toNatUp, reduceCtorEq, false_and, and_false, false_or, or_false, true_or, or_true, not_true_eq_false, not_false_eq_true, Bool.not_true, Bool.not_false, Bool.and_true, Bool.true_and, Bool.and_false, Bool.false_and, Bool.not_eq_true, beq_self_eq_true, Nat.add_zero, Int.reduceLE, Int.reduceLT, Int.reduceToNat, Int.reduceNeg, y7, y8, w1, w2, q1, q2, tx2n, vx2n, tz2n, vz2n]
                  refine ⟨fun t ht => ?_, g28, B28, rfl⟩
                  try simp only [updo, upd]
                  repeat rw [if_neg (by omega)]
                · rintro E19 g30 ⟨keep19, g28, b28, hg30⟩
                  have j5 := (keep19 5 (by omega)).trans y5
                  have j6 := (keep19 6 (by omega)).trans y6
                  have j7 := (keep19 7 (by omega)).trans y7
                  have j8 := (keep19 8 (by omega)).trans y8
                  have j9 := (keep19 9 (by omega)).trans y9
                  have j10 := (keep19 10 (by omega)).trans y10
                  have j11 := (keep19 11 (by omega)).trans y11
                  have j12 := (keep19 12 (by omega)).trans y12
                  have zA28 := b28.get (lt_of_get zA24) zA24
                  have zB28 := b28.get (lt_of_get zB24) zB24
                  obtain ⟨zA30, zB30, zx30⟩ := two_set (o1 := fldC x2n) (o2 := fldC z2n) nAB zA28 zB28
                  rw [← hg30] at zA30 zB30 zx30
                  have zC30 := (zx30 C (by omega) (by omega)).trans (b28.get (lt_of_get zC24) zC24)
                  have zD30 := (zx30 D (by omega) (by omega)).trans (b28.get (lt_of_get zD24) zD24)
                  have zU30 := (zx30 U (by omega) (by omega)).trans (b28.get (lt_of_get zU24) zU24)
                  have zk30 := (zx30 bk (by omega) (by omega)).trans (b28.get (lt_of_get zk24) zk24)
                  have B30 : Bel h.size h g30 := by rw [hg30]; exact ((B24.trans (b28.mono B24.size)).addSet (by omega) _).addSet (by omega) _
                  clear hg30
                  have sw3 := fldSwap_ok T g30 A C nAC b x2n x3n lx2n lx3n (wx2n.mono (by omega)) (wx3n.mono (by omega)) zA30 zC30
                  rw [← hbo] at sw3
                  simp (config := {maxSteps := 2000000, implicitDefEqProofs := false}) only [go_sem, ↓reduceIte, Nat.reduceEqDiff, Nat.reduceAdd, Nat.reduceMul, Nat.reduceLeDiff, Nat.reduceLT, Nat.reduceSub, IntWalk.iteOmega, IntWalk.toNatUp, reduceCtorEq, false_and, and_false, false_or, or_false, true_or, or_true, not_true_eq_false, not_false_eq_true, Bool.not_true, Bool.not_false, Bool.and_true, Bool.true_and, Bool.and_false, Bool.false_and, Bool.not_eq_true, beq_self_eq_true, Nat.add_zero, Int.reduceLE, Int.reduceLT, Int.reduceToNat, Int.reduceNeg, j5, j6, j7, j8, j9, j10, j11, j12]
                  refine sw3.use ?_
                  rintro _ g31 hg31
                  obtain ⟨oA, oC, ox⟩ := two_set (o1 := fldC (if b then x3n else x2n)) (o2 := fldC (if b then x2n else x3n)) nAC zA30 zC30
                  rw [← hg31] at oA oC ox
                  have B31 : Bel h.size h g31 := by rw [hg31]; exact (B30.addSet (by omega) _).addSet (by omega) _
                  have oB := (ox B (by omega) (by omega)).trans zB30
                  have oD := (ox D (by omega) (by omega)).trans zD30
                  have oU := (ox U (by omega) (by omega)).trans zU30
                  have ok := (ox bk (by omega) (by omega)).trans zk30
                  clear hg31 ox sw3
                  have sw4 := fldSwap_ok T g31 B D nBD b z2n z3n lz2n lz3n (wz2n.mono (by omega)) (wz3n.mono (by omega)) oB oD
                  rw [← hbo] at sw4
                  simp (config := {maxSteps := 2000000, implicitDefEqProofs := false}) only [go_sem, ↓reduceIte, Nat.reduceEqDiff, Nat.reduceAdd, Nat.reduceMul, Nat.reduceLeDiff, Nat.reduceLT, Nat.reduceSub, IntWalk.iteOmega, IntWalk.toNatUp, reduceCtorEq, false_and, and_false, false_or, or_false, true_or, or_true, not_true_eq_false, not_false_eq_true, Bool.not_true, Bool.not_false, Bool.and_true, Bool.true_and, Bool.and_false, Bool.false_and, Bool.not_eq_true, beq_self_eq_true, Nat.add_zero, Int.reduceLE, Int.reduceLT, Int.reduceToNat, Int.reduceNeg, j5, j6, j7, j8, j9, j10, j11, j12]
                  refine sw4.use ?_
                  rintro _ g32 hg32
                  obtain ⟨pB, pD, px⟩ := two_set (o1 := fldC (if b then z3n else z2n)) (o2 := fldC (if b then z2n else z3n)) nBD oB oD
                  rw [← hg32] at pB pD px
                  have B32 : Bel h.size h g32 := by rw [hg32]; exact (B31.addSet (by omega) _).addSet (by omega) _
                  have pA := (px A (by omega) (by omega)).trans oA
                  have pC := (px C (by omega) (by omega)).trans oC
                  have pU := (px U (by omega) (by omega)).trans oU
                  have pk := (px bk (by omega) (by omega)).trans ok
                  clear hg32 px sw4 oA oB oC oD oU ok
                  have hcore : FR.core uu ⟨X2, Z2, X3, Z3⟩ = ⟨x2n, z2n, x3n, z3n⟩ := by simp only [FR.core, hx2n, hz2n, hx3n, hz3n, hap, hek, hgg, hee, haa, hbb, hda, hcb, hsu, hga, hxa, hxb, hxc, hxd]
                  rw [hcore] at hnext
                  have i1 : (ladF K uu (j + 1)).x2 = if b then x3n else x2n := by rw [hnext, FR.turn_x2]
                  have i2 : (ladF K uu (j + 1)).z2 = if b then z3n else z2n := by rw [hnext, FR.turn_z2]
                  have i3 : (ladF K uu (j + 1)).x3 = if b then x2n else x3n := by rw [hnext, FR.turn_x3]
                  have i4 : (ladF K uu (j + 1)).z3 = if b then z2n else z3n := by rw [hnext, FR.turn_z3]
                  rw [← i1] at pA
                  rw [← i2] at pB
                  rw [← i3] at pC
                  rw [← i4] at pD
                  clear hcore hnext i1 i2 i3 i4
                  have hi1 : (i : Int) - 1 = 254 - ((j + 1 : Nat) : Int) := by omega
                  simp (config := {maxSteps := 2000000, implicitDefEqProofs := false}) only [go_sem, ↓reduceIte, Nat.reduceEqDiff, Nat.reduceAdd, Nat.reduceMul, Nat.reduceLeDiff, Nat.reduceLT, Nat.reduceSub, IntWalk.iteOmega, IntWalk.toNatUp, reduceCtorEq, false_and, and_false, false_or, or_false, true_or, or_true, not_true_eq_false, not_false_eq_true, Bool.not_true, Bool.not_false, Bool.and_true, Bool.true_and, Bool.and_false, Bool.false_and, Bool.not_eq_true, beq_self_eq_true, Nat.add_zero, Int.reduceLE, Int.reduceLT, Int.reduceToNat, Int.reduceNeg, j5, j6, j7, j8, j9, j10, j11, j12, hi1]
                  refine ⟨⟨j5, j6, j7, j8, j9, j10, B32, pk, pU, j + 1, by omega, rfl, pA, pB, pC, pD⟩, ?_⟩
                  show (254 - ((j + 1 : Nat) : Int) + 1).toNat < ((i : Int) + 1).toNat
                  omega
  · have hj255 : j = 255 := by omega
    subst hj255
    obtain ⟨⟨o1, w1⟩, ⟨o2, w2⟩, _⟩ := lad 255
    obtain ⟨s5, hs5⟩ : ∃ s, s = ladF K uu 255 := ⟨_, rfl⟩
    rw [← hs5] at xA xB o1 w1 o2 w2
    have f11' : F 11 = .int .i64 (-1) := by rw [f11]; rfl
    have rA := rd_fld o1 xA
    have rB := rd_fld o2 xB
    have zA := lt_of_get xA
    have zB := lt_of_get xB
    have tA : (s5.x2.map sv).take 16 = s5.x2.map sv := List.take_of_length_le (by simp [o1])
    have tB : (s5.z2.map sv).take 16 = s5.z2.map sv := List.take_of_length_le (by simp [o2])
    obtain ⟨pp, hpp⟩ : ∃ l, l = fpow s5.z2 254 := ⟨_, rfl⟩
    obtain ⟨wp, op⟩ := fpow_in o2 (w2.mono (by omega)) 254
    have ct := fldTurned_ok T g s5.z2 o2 (w2.mono (by omega))
    rw [← hpp] at op wp ct
    obtain ⟨rr, hrr⟩ : ∃ l, l = ftimes s5.x2 pp := ⟨_, rfl⟩
    have nr : Near 38 rr := by rw [hrr]; exact ftimes_near (w1.mono (by omega)) wp
    simp (config := {maxSteps := 2000000, implicitDefEqProofs := false}) only [go_sem, ↓reduceIte, Nat.reduceEqDiff, Nat.reduceAdd, Nat.reduceMul, Nat.reduceLeDiff, Nat.reduceLT, Nat.reduceSub, IntWalk.iteOmega, IntWalk.toNatUp, reduceCtorEq, false_and, and_false, false_or, or_false, true_or, or_true, not_true_eq_false, not_false_eq_true, Bool.not_true, Bool.not_false, Bool.and_true, Bool.true_and, Bool.and_false, Bool.false_and, Bool.not_eq_true, beq_self_eq_true, Nat.add_zero, Int.reduceLE, Int.reduceLT, Int.reduceToNat, Int.reduceNeg, f5, f6, f7, f8, f9, f10, f11']
    refine VS.w (g.size) [] (.q 0 (.q 1 (.s 2 (.s 3 (.s 4 (.q 5 .nil)))))) mixed (by kernel_rfl) ?_
    simp (config := {maxSteps := 2000000, implicitDefEqProofs := false}) only [go_sem, ↓reduceIte, Nat.reduceEqDiff, Nat.reduceAdd, Nat.reduceMul, Nat.reduceLeDiff, Nat.reduceLT, Nat.reduceSub, IntWalk.iteOmega, IntWalk.toNatUp, reduceCtorEq, false_and, and_false, false_or, or_false, true_or, or_true, not_true_eq_false, not_false_eq_true, Bool.not_true, Bool.not_false, Bool.and_true, Bool.true_and, Bool.and_false, Bool.false_and, Bool.not_eq_true, beq_self_eq_true, Nat.add_zero, Int.reduceLE, Int.reduceLT, Int.reduceToNat, Int.reduceNeg, f7, f8, rA, rB, zA, zB, tA, tB]
    refine ct.use ?_
    rintro _ g1 ⟨rfl, b1⟩
    simp (config := {maxSteps := 2000000, implicitDefEqProofs := false}) only [go_sem, ↓reduceIte, Nat.reduceEqDiff, Nat.reduceAdd, Nat.reduceMul, Nat.reduceLeDiff, Nat.reduceLT, Nat.reduceSub, IntWalk.iteOmega, IntWalk.toNatUp, reduceCtorEq, false_and, and_false, false_or, or_false, true_or, or_true, not_true_eq_false, not_false_eq_true, Bool.not_true, Bool.not_false, Bool.and_true, Bool.true_and, Bool.and_false, Bool.false_and, Bool.not_eq_true, beq_self_eq_true, Nat.add_zero, Int.reduceLE, Int.reduceLT, Int.reduceToNat, Int.reduceNeg, b1]
    refine (fldTimes_ok T g1 s5.x2 pp o1 op (w1.mono (by omega)) wp).use ?_
    rintro _ g2 ⟨rfl, b2⟩
    rw [← hrr]
    have B2 : Bel g.size g g2 := b1.trans (b2.mono b1.size)
    simp (config := {maxSteps := 2000000, implicitDefEqProofs := false}) only [go_sem, ↓reduceIte, Nat.reduceEqDiff, Nat.reduceAdd, Nat.reduceMul, Nat.reduceLeDiff, Nat.reduceLT, Nat.reduceSub, IntWalk.iteOmega, IntWalk.toNatUp, reduceCtorEq, false_and, and_false, false_or, or_false, true_or, or_true, not_true_eq_false, not_false_eq_true, Bool.not_true, Bool.not_false, Bool.and_true, Bool.true_and, Bool.and_false, Bool.false_and, Bool.not_eq_true, beq_self_eq_true, Nat.add_zero, Int.reduceLE, Int.reduceLT, Int.reduceToNat, Int.reduceNeg, B2]
    refine (fldWrite_ok T g2 rr nr).use ?_
    rintro v' g3 ⟨ob, b3⟩
    have B3 : Bel g.size g g3 := B2.trans (b3.mono B2.size)
    have hcf : curveF kl pl = fby (fon (fcN rr 16) 2) 16 := by rw [hrr, hpp, hs5, hK, huu]; rfl
    simp (config := {maxSteps := 2000000, implicitDefEqProofs := false}) only [go_sem, ↓reduceIte, Nat.reduceEqDiff, Nat.reduceAdd, Nat.reduceMul, Nat.reduceLeDiff, Nat.reduceLT, Nat.reduceSub, IntWalk.iteOmega, IntWalk.toNatUp, reduceCtorEq, false_and, and_false, false_or, or_false, true_or, or_true, not_true_eq_false, not_false_eq_true, Bool.not_true, Bool.not_false, Bool.and_true, Bool.true_and, Bool.and_false, Bool.false_and, Bool.not_eq_true, beq_self_eq_true, Nat.add_zero, Int.reduceLE, Int.reduceLT, Int.reduceToNat, Int.reduceNeg, B3]
    rw [hcf]
    exact ⟨ob.mono (by have := B2.size; have := hB.size; omega), hB.trans (B3.mono hB.size)⟩
end Go.Proofs.Ytiakfdpmapmifaa
