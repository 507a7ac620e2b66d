/- The program's number read from 32 bytes: the walk; no condition but those in the statements. -/
import Derived.Test.YtiakfdpmapmifaaFlds
namespace Go.Proofs.Ytiakfdpmapmifaa
open Go Go.V
set_option linter.unusedSimpArgs false
set_option linter.unusedVariables false
set_option maxRecDepth 100000
theorem shl8_i64 {x : Nat} (hx : x < 256) : shlOp .i64 (x : Int) 8 = ((x * 256 : Nat) : Int) := by
  have h := shl_nat .i64 x 8 (by decide)
  rw [show ((8 : Nat) : Int) = 8 from rfl] at h
  rw [h]
  exact wrap_nat .i64 _ (by show x * 2 ^ 8 < 2 ^ 63; omega)
theorem two_or {a b : Nat} (ha : a < 256) (hb : b < 256) : bitOp .or .i64 (a : Int) (shlOp .i64 (b : Int) 8) = ((a + 256 * b : Nat) : Int) := by
  rw [shl8_i64 hb, or_i64 _ _ (by omega) (by omega), Nat.or_comm, show b * 256 = 2 ^ 8 * b by omega, ← Nat.two_pow_add_eq_or_of_lt (by omega : a < 2 ^ 8)]
  congr 1; omega
theorem and15b {x : Nat} (hx : x < 65536) : bitOp .and .i64 (x : Int) 32767 = ((x % 32768 : Nat) : Int) := by
  have h := and_i64 x 32767 (by omega) (by omega)
  rw [show ((32767 : Nat) : Int) = 32767 from rfl] at h
  rw [h, show (32767 : Nat) = 2 ^ 15 - 1 from rfl, Nat.and_two_pow_sub_one_eq_mod]
def frd (l : List Nat) : Nat → List Int
  | 0 => List.replicate 16 0
  | i + 1 => (frd l i).set i ((l.getD (2 * i) 0 + 256 * l.getD (2 * i + 1) 0 : Nat) : Int)
def fread (l : List Nat) : List Int := (frd l 16).set 15 (((l.getD 30 0 + 256 * l.getD 31 0) % 32768 : Nat) : Int)
theorem frd_length (l : List Nat) : ∀ i, (frd l i).length = 16
  | 0 => by simp [frd]
  | i + 1 => by rw [frd, List.length_set, frd_length l i]
theorem frd_at (l : List Nat) : ∀ n, n ≤ 16 → ∀ i, i < n → (frd l n).getD i 0 = ((l.getD (2 * i) 0 + 256 * l.getD (2 * i + 1) 0 : Nat) : Int)
  | n + 1, hn, i, hi => by
    rw [frd]
    by_cases e : i = n
    · subst e; rw [igetD_set_eq (by rw [frd_length]; omega)]
    · rw [igetD_set_ne (by omega), frd_at l n (by omega) i (by omega)]
theorem fread_length (l : List Nat) : (fread l).length = 16 := by unfold fread; rw [List.length_set, frd_length]
theorem fread_at (l : List Nat) (i : Nat) (hi : i < 16) : (fread l).getD i 0 = if i = 15 then (((l.getD 30 0 + 256 * l.getD 31 0) % 32768 : Nat) : Int) else ((l.getD (2 * i) 0 + 256 * l.getD (2 * i + 1) 0 : Nat) : Int) := by
  unfold fread
  by_cases e : i = 15
  · subst e; rw [igetD_set_eq (by rw [frd_length]; omega), if_pos rfl]
  · rw [igetD_set_ne (by omega), if_neg e, frd_at l 16 (by omega) i hi]
theorem fread_near {l : List Nat} (w : ∀ x ∈ l, x < 256) : Near 0 (fread l) := by
  refine ⟨fread_length l, ?_, fun j h1 h2 => ?_⟩
  · have h1 := getD_byte w 0
    have h2 := getD_byte w 1
    rw [fread_at l 0 (by omega), if_neg (by omega)]
    have e : 2 * 0 = 0 := rfl
    have e1 : 0 + 1 = 1 := rfl
    rw [e, e1]
    omega
  · rw [fread_at l j h2]
    have h3 := getD_byte w (2 * j)
    have h4 := getD_byte w (2 * j + 1)
    split <;> omega
set_option maxHeartbeats 1000000 in
theorem fldRead_ok (T : World) (h : Hp) (v : Value) (l : List Nat) (s : Bs h v l) (hl : l.length = 32) :
    CallsH Try.prog T 38 #[v] h fun v' h' => v' = .agg ((fread l).map sv).toArray ∧ Bel h.size h h' := by
  have wby := s.byte
  obtain ⟨p, c, rfl, hpc⟩ := s.opend
  obtain ⟨bb, oo, rfl, hbb, hpc⟩ := hpc (by intro e; rw [e] at hl; simp at hl)
  rw [hl] at hpc ⊢
  have hzl : (List.replicate 16 (0 : Int)).length = 16 := by simp
  refine CallsH.of_code2 (args := [_]) Try.func38 rfl rfl rfl rfl ?_
  have z16 : (#[Value.int .i64 0, .int .i64 0, .int .i64 0, .int .i64 0, .int .i64 0, .int .i64 0, .int .i64 0, .int .i64 0, .int .i64 0, .int .i64 0, .int .i64 0, .int .i64 0, .int .i64 0, .int .i64 0, .int .i64 0, .int .i64 0] : Array Value) = ((List.replicate 16 (0 : Int)).map sv).toArray := rfl
  obtain ⟨G, hG⟩ : ∃ G : Hp, G = ((h.push (fldC (List.replicate 16 0))).push (fldC (List.replicate 16 0))) := ⟨_, rfl⟩
  have Gs : G.size = h.size + 1 + 1 := by rw [hG]; simp
  have G0 : G[h.size]? = some (fldC (List.replicate 16 0)) := by
    have := get_push_last (h := h) (o := fldC (List.replicate 16 0))
    rw [hG, get_push_ne (by simp), this]
  have G1 : G[h.size + 1]? = some (fldC (List.replicate 16 0)) := by
    have := get_push_last (h := h.push (fldC (List.replicate 16 0))) (o := fldC (List.replicate 16 0))
    rw [Array.size_push] at this
    rw [hG, this]
  have GB : Bel h.size h G := by rw [hG]; exact (Bel.push (Nat.le_refl _) _).addP (by simp) _
  have hfold : ((h.push (.cells ((List.replicate 16 (0 : Int)).map sv).toArray 65)).push (.cells ((List.replicate 16 (0 : Int)).map sv).toArray 65)) = G := by rw [hG]; rfl
  simp (config := {maxSteps := 2000000, implicitDefEqProofs := false}) only [go_sem, ↓reduceIte, Nat.reduceEqDiff, Nat.reduceAdd, Nat.reduceMul, Nat.reduceLeDiff, Nat.reduceLT, Nat.reduceSub, IntWalk.iteOmega, IntWalk.toNatUp, reduceCtorEq, false_and, and_false, false_or, or_false, true_or, or_true, not_true_eq_false, not_false_eq_true, Bool.not_true, Bool.not_false, Bool.and_true, Bool.true_and, Bool.and_false, Bool.false_and, Bool.not_eq_true, beq_self_eq_true, Nat.add_zero, Int.reduceLE, Int.reduceLT, Int.reduceToNat, Int.reduceNeg, z16]
  rw [hfold]
  clear hG hfold z16
  obtain ⟨bn, hbn⟩ : ∃ b, b = h.size + 1 := ⟨_, rfl⟩
  obtain ⟨br, hbr⟩ : ∃ b, b = h.size := ⟨_, rfl⟩
  rw [← hbn] at G1 ⊢
  rw [← hbr] at G0 GB ⊢
  refine VS.loop' (fun F g => F 0 = .slice (some ⟨bb, oo, none⟩) 32 c ∧ F 2 = .pointer (some ⟨br, 0, none⟩) ∧ F 3 = .pointer (some ⟨bn, 0, none⟩) ∧ ∃ i : Nat, i ≤ 16 ∧ F 5 = .int .i64 i ∧ g = G.setIfInBounds bn (fldC (frd l i)))
    (fun F _ => 16 - (vi (F 5)).toNat) rfl ⟨rfl, rfl, rfl, 0, by omega, rfl, (set_same G1).symm⟩ ?_
  rintro F g ⟨f0, f2, f3, i, hi, f5, rfl⟩
  have hx := cells_new (o := fldC (frd l i)) G1
  have hB : Bel br h (G.setIfInBounds bn (fldC (frd l i))) := GB.addSet (by omega) _
  have lf := frd_length l i
  by_cases hlt : i < 16
  · have hlt' : (i : Int) < 16 := by omega
    have hnext : frd l (i + 1) = (frd l i).set i ((l.getD (2 * i) 0 + 256 * l.getD (2 * i + 1) 0 : Nat) : Int) := rfl
    have u0 := hpc (2 * i) (by omega)
    have u1 := hpc (2 * i + 1) (by omega)
    have w0 := getD_byte wby (2 * i)
    have w1 := getD_byte wby (2 * i + 1)
    obtain ⟨a, ha⟩ : ∃ a, a = l.getD (2 * i) 0 := ⟨_, rfl⟩
    obtain ⟨b, hb⟩ : ∃ b, b = l.getD (2 * i + 1) 0 := ⟨_, rfl⟩
    rw [← ha] at u0 w0 hnext
    rw [← hb] at u1 w1 hnext
    clear ha hb
    obtain ⟨q, hq⟩ : ∃ q, q = frd l i := ⟨_, rfl⟩
    rw [← hq] at hx hB lf hnext ⊢
    clear hq
    obtain ⟨g, hg⟩ : ∃ g, g = G.setIfInBounds bn (fldC q) := ⟨_, rfl⟩
    rw [← hg] at hx hB ⊢
    have v0 : V.hc g ⟨bb, oo + 2 * i, none⟩ = some (.int .u8 (a : Nat)) := by rw [hB.hc (by rw [hbr]; exact hbb)]; exact u0
    have v1 : V.hc g ⟨bb, oo + (2 * i + 1), none⟩ = some (.int .u8 (b : Nat)) := by rw [hB.hc (by rw [hbr]; exact hbb)]; exact u1
    have e2 : (2 : Int) * (i : Int) = ((2 * i : Nat) : Int) := rfl
    have e3 : ((2 * i : Nat) : Int) + 1 = ((2 * i + 1 : Nat) : Int) := rfl
    have l2 : ((2 * i : Nat) : Int) < 32 := by omega
    have l3 : ((2 * i + 1 : Nat) : Int) < 32 := by omega
    have eo := two_or w0 w1
    have c1 : wr1 g ⟨bn, i, none⟩ (.int .i64 ((a + 256 * b : Nat) : Int)) = _ := icells_set hx (i := i) (by omega) _
    simp (config := {maxSteps := 2000000, implicitDefEqProofs := false}) only [go_sem, ↓reduceIte, Nat.reduceEqDiff, Nat.reduceAdd, Nat.reduceMul, Nat.reduceLeDiff, Nat.reduceLT, Nat.reduceSub, IntWalk.iteOmega, IntWalk.toNatUp, reduceCtorEq, false_and, and_false, false_or, or_false, true_or, or_true, not_true_eq_false, not_false_eq_true, Bool.not_true, Bool.not_false, Bool.and_true, Bool.true_and, Bool.and_false, Bool.false_and, Bool.not_eq_true, beq_self_eq_true, Nat.add_zero, Int.reduceLE, Int.reduceLT, Int.reduceToNat, Int.reduceNeg, f0, f2, f3, f5, hlt', Int.toNat_natCast]
    refine VS.w (br) [17] (.q 0 (.q 1 (.q 2 (.q 3 (.q 4 (.q 5 (.q 6 (.q 7 (.q 8 (.q 9 (.q 10 (.q 11 (.q 12 (.q 13 (.q 14 (.q 15 (.q 16 (.w 17 .nil)))))))))))))))))) mixed (by kernel_rfl) ?_
    simp (config := {maxSteps := 2000000, implicitDefEqProofs := false}) only [go_sem, ↓reduceIte, Nat.reduceEqDiff, Nat.reduceAdd, Nat.reduceMul, Nat.reduceLeDiff, Nat.reduceLT, Nat.reduceSub, IntWalk.iteOmega, IntWalk.toNatUp, reduceCtorEq, false_and, and_false, false_or, or_false, true_or, or_true, not_true_eq_false, not_false_eq_true, Bool.not_true, Bool.not_false, Bool.and_true, Bool.true_and, Bool.and_false, Bool.false_and, Bool.not_eq_true, beq_self_eq_true, Nat.add_zero, Int.reduceLE, Int.reduceLT, Int.reduceToNat, Int.reduceNeg, f0, f2, f3, f5, hlt', Int.toNat_natCast, Nat.zero_add, e2, e3, l2, l3, v0, v1, eo, c1]
    refine ⟨⟨f0, f2, f3, i + 1, hlt, rfl, ?_⟩, ?_⟩
    · rw [hg, set_set, hnext]; rfl
    · simp only [vi, updo_some, ↓reduceIte, f5]; omega
  · have hge : ¬ (i : Int) < 16 := by omega
    obtain rfl : i = 16 := by omega
    have c16 : ((16 : Nat) : Int) = 16 := rfl
    rw [c16] at f5 hge
    have hz : (G.setIfInBounds bn (fldC (frd l 16)))[br]? = some (fldC (List.replicate 16 0)) := by rw [Array.getElem?_setIfInBounds, if_neg (by omega)]; exact G0
    have h15 : (frd l 16).getD 15 0 = ((l.getD 30 0 + 256 * l.getD 31 0 : Nat) : Int) := frd_at l 16 (by omega) 15 (by omega)
    have w0 := getD_byte wby 30
    have w1 := getD_byte wby 31
    have hres : fread l = (frd l 16).set 15 (((l.getD 30 0 + 256 * l.getD 31 0) % 32768 : Nat) : Int) := rfl
    rw [hres]
    obtain ⟨x, hxx⟩ : ∃ x, x = l.getD 30 0 + 256 * l.getD 31 0 := ⟨_, rfl⟩
    have hx64 : x < 65536 := by omega
    rw [← hxx] at h15 ⊢
    obtain ⟨q, hq⟩ : ∃ q, q = frd l 16 := ⟨_, rfl⟩
    rw [← hq] at hx hB lf hz h15 ⊢
    clear hq hxx
    obtain ⟨g, hg⟩ : ∃ g, g = G.setIfInBounds bn (fldC q) := ⟨_, rfl⟩
    rw [← hg] at hx hB hz ⊢
    have g15 := icells_get hx (i := 15) (by omega)
    rw [h15] at g15
    have e15 := and15b hx64
    have c15 : wr1 g ⟨bn, 15, none⟩ (.int .i64 ((x % 32768 : Nat) : Int)) = _ := icells_set hx (i := 15) (by omega) _
    have ls : (q.set 15 ((x % 32768 : Nat) : Int)).length = 16 := by rw [List.length_set, lf]
    have hx2 := cells_new (o := fldC (q.set 15 ((x % 32768 : Nat) : Int))) hx
    have hz2 : (g.setIfInBounds bn (fldC (q.set 15 ((x % 32768 : Nat) : Int))))[br]? = some (fldC (List.replicate 16 0)) := by rw [Array.getElem?_setIfInBounds, if_neg (by omega)]; exact hz
    have hB2 : Bel br h (g.setIfInBounds bn (fldC (q.set 15 ((x % 32768 : Nat) : Int)))) := hB.addSet (by omega) _
    have hge2 : g.setIfInBounds bn (.cells ((q.set 15 ((x % 32768 : Nat) : Int)).map sv).toArray 65) = g.setIfInBounds bn (fldC (q.set 15 ((x % 32768 : Nat) : Int))) := rfl
    rw [hge2] at c15
    obtain ⟨y, hy⟩ : ∃ y : Int, y = ((x % 32768 : Nat) : Int) := ⟨_, rfl⟩
    rw [← hy] at e15 c15 ls hx2 hz2 hB2 ⊢
    clear hge2 hy
    obtain ⟨r, hr⟩ : ∃ r, r = q.set 15 y := ⟨_, rfl⟩
    rw [← hr] at c15 ls hx2 hz2 hB2 ⊢
    obtain ⟨J, hJ⟩ : ∃ J, J = g.setIfInBounds bn (fldC r) := ⟨_, rfl⟩
    rw [← hJ] at c15 hx2 hz2 hB2
    clear hJ hr
    have r3 := rd_fld ls hx2
    have lq : (r.map sv).length = 16 := by simp [ls]
    have w4 := wr_fld hz2 hzl ls
    have tp : (r.map sv).take 16 = r.map sv := List.take_of_length_le (by omega)
    have hlr := lt_of_get hz2
    have r5 := rd_fld ls (cells_new (o := fldC r) hz2)
    simp (config := {maxSteps := 2000000, implicitDefEqProofs := false}) only [go_sem, ↓reduceIte, Nat.reduceEqDiff, Nat.reduceAdd, Nat.reduceMul, Nat.reduceLeDiff, Nat.reduceLT, Nat.reduceSub, IntWalk.iteOmega, IntWalk.toNatUp, reduceCtorEq, false_and, and_false, false_or, or_false, true_or, or_true, not_true_eq_false, not_false_eq_true, Bool.not_true, Bool.not_false, Bool.and_true, Bool.true_and, Bool.and_false, Bool.false_and, Bool.not_eq_true, beq_self_eq_true, Nat.add_zero, Int.reduceLE, Int.reduceLT, Int.reduceToNat, Int.reduceNeg, f0, f2, f3, f5, hge, g15, e15, c15, r3, lq, w4, tp, hlr, r5]
    exact hB2.addSet (b := br) (Nat.le_refl _) _
end Go.Proofs.Ytiakfdpmapmifaa
