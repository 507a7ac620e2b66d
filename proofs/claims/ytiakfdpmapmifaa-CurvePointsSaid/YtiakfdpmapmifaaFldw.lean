/- The program's product of two numbers modulo 2^255 - 19, walked; no condition but those in the statements. -/
import Derived.Test.YtiakfdpmapmifaaFldt
namespace Go.Proofs.Ytiakfdpmapmifaa
open Go Go.V
set_option linter.unusedSimpArgs false
set_option linter.unusedVariables false
set_option maxRecDepth 100000
theorem nth_sv {l : List Int} {i : Nat} (hi : i < l.length) : nth (l.map sv) i = some (.int .i64 (l.getD i 0)) := by
  rw [nth_eq, List.getElem?_map, List.getElem?_eq_getElem hi, List.getD_eq_getElem?_getD, List.getElem?_eq_getElem hi]; rfl
theorem rd_fld {g : Hp} {b : Nat} {l : List Int} (hl : l.length = 16) (hx : g[b]? = some (fldC l)) : rd g ⟨b, 0, none⟩ 16 = some (l.map sv) := rd_last hx (by simpa using hl)
/-- What a product leaves: the fold, carried twice. -/
def ftimes (xs ys : List Int) : List Int := fcN (fcN (ffold (ftmat xs ys 16) 16) 16) 16
set_option maxHeartbeats 1000000 in
theorem fldTimes_ok (T : World) (h : Hp) (xs bs : List Int) (ha : xs.length = 16) (hb : bs.length = 16) (wa : InK 524288 xs) (wb : InK 524288 bs) :
    CallsH Try.prog T 42 #[.agg (xs.map sv).toArray, .agg (bs.map sv).toArray] h fun v' h' => v' = .agg ((ftimes xs bs).map sv).toArray ∧ Bel h.size h h' := by
  have la : (xs.map sv).length = 16 := by simpa using ha
  have lb : (bs.map sv).length = 16 := by simpa using hb
  have ta : (xs.map sv).take 16 = xs.map sv := List.take_of_length_le (by omega)
  refine CallsH.of_code2 (args := [_, _]) Try.func42 rfl rfl rfl rfl ?_
  have z16 : (#[Value.int .i64 0, .int .i64 0, .int .i64 0, .int .i64 0, .int .i64 0, .int .i64 0, .int .i64 0, .int .i64 0, .int .i64 0, .int .i64 0, .int .i64 0, .int .i64 0, .int .i64 0, .int .i64 0, .int .i64 0, .int .i64 0] : Array Value) = ((List.replicate 16 (0 : Int)).map sv).toArray := rfl
  have z31 : (#[Value.int .i64 0, .int .i64 0, .int .i64 0, .int .i64 0, .int .i64 0, .int .i64 0, .int .i64 0, .int .i64 0, .int .i64 0, .int .i64 0, .int .i64 0, .int .i64 0, .int .i64 0, .int .i64 0, .int .i64 0, .int .i64 0, .int .i64 0, .int .i64 0, .int .i64 0, .int .i64 0, .int .i64 0, .int .i64 0, .int .i64 0, .int .i64 0, .int .i64 0, .int .i64 0, .int .i64 0, .int .i64 0, .int .i64 0, .int .i64 0, .int .i64 0] : Array Value) = ((ftmat xs bs 0).map sv).toArray := rfl
  simp (config := {maxSteps := 2000000, implicitDefEqProofs := false}) only [go_sem, ↓reduceIte, Nat.reduceEqDiff, Nat.reduceAdd, Nat.reduceMul, Nat.reduceLeDiff, Nat.reduceLT, Nat.reduceSub, IntWalk.iteOmega, IntWalk.toNatUp, reduceCtorEq, false_and, and_false, false_or, or_false, true_or, or_true, not_true_eq_false, not_false_eq_true, Bool.not_true, Bool.not_false, Bool.and_true, Bool.true_and, Bool.and_false, Bool.false_and, Bool.not_eq_true, beq_self_eq_true, Nat.add_zero, Int.reduceLE, Int.reduceLT, Int.reduceToNat, Int.reduceNeg, la, lb, ta]
  rw [z16, z31]
  obtain ⟨H, hH⟩ : ∃ H : Hp, H = ((((h.push (fldC xs)).push (fldC bs)).push (fldC (List.replicate 16 0))).push (.cells ((ftmat xs bs 0).map sv).toArray 83)) := ⟨_, rfl⟩
  have HB : Bel h.size h H := by rw [hH]; exact (((Bel.push (Nat.le_refl _) _).addP (by simp) _).addP (by simp; omega) _).addP (by simp; omega) _
  have Hs : H.size = h.size + 1 + 1 + 1 + 1 := by rw [hH]; simp
  have H1 : H[h.size + 1]? = some (fldC bs) := by
    have := get_push_last (h := h.push (fldC xs)) (o := fldC bs)
    rw [Array.size_push] at this
    rw [hH, get_push_ne (by simp), get_push_ne (by simp), this]
  have H2 : H[h.size + 1 + 1]? = some (fldC (List.replicate 16 0)) := by
    have := get_push_last (h := (h.push (fldC xs)).push (fldC bs)) (o := fldC (List.replicate 16 0))
    rw [Array.size_push, Array.size_push] at this
    rw [hH, get_push_ne (by simp), this]
  have H3 : H[h.size + 1 + 1 + 1]? = some (.cells ((ftmat xs bs 0).map sv).toArray 83) := by
    have := get_push_last (h := ((h.push (fldC xs)).push (fldC bs)).push (fldC (List.replicate 16 0))) (o := .cells ((ftmat xs bs 0).map sv).toArray 83)
    rw [Array.size_push, Array.size_push, Array.size_push] at this
    rw [hH, this]
  have hfold : ((((h.push (.cells (xs.map sv).toArray 65)).push (.cells (bs.map sv).toArray 65)).push (.cells ((List.replicate 16 (0 : Int)).map sv).toArray 65)).push (.cells ((ftmat xs bs 0).map sv).toArray 83)) = H := by rw [hH]; rfl
  rw [hfold]
  clear hH hfold z16 z31
  obtain ⟨bt, hbt⟩ : ∃ b, b = h.size + 1 + 1 + 1 := ⟨_, rfl⟩
  obtain ⟨br, hbr⟩ : ∃ b, b = h.size + 1 + 1 := ⟨_, rfl⟩
  obtain ⟨bb, hbb⟩ : ∃ b, b = h.size + 1 := ⟨_, rfl⟩
  rw [← hbt] at H3 ⊢
  rw [← hbr] at H2 ⊢
  rw [← hbb] at H1 ⊢
  have hbT : (List.replicate 16 (0 : Int)).length = 16 := by simp
  refine VS.loop' (fun F g => F 3 = .pointer (some ⟨bb, 0, none⟩) ∧ F 4 = .pointer (some ⟨br, 0, none⟩) ∧ F 5 = .pointer (some ⟨bt, 0, none⟩) ∧ F 12 = .agg (xs.map sv).toArray ∧ ∃ i : Nat, i ≤ 16 ∧ F 13 = .int .i64 i ∧ g = H.setIfInBounds bt (.cells ((ftmat xs bs i).map sv).toArray 83))
    (fun F _ => 16 - (vi (F 13)).toNat) rfl ⟨rfl, rfl, rfl, rfl, 0, by omega, rfl, (set_same H3).symm⟩ ?_
  rintro F g ⟨f3, f4, f5, f12, i, hi, f13, rfl⟩
  by_cases hlt : i < 16
  · have hlt' : (i : Int) < 16 := by omega
    have n1 := nth_sv (l := xs) (i := i) (by omega)
    have H1' : (H.setIfInBounds bt (.cells ((ftmat xs bs i).map sv).toArray 83))[bb]? = some (fldC bs) := by rw [Array.getElem?_setIfInBounds, if_neg (by omega)]; exact H1
    have r1 := rd_fld hb H1'
    have wA := wa.getD (by omega) i
    have hrow : ftmat xs bs (i + 1) = ftrow (xs.getD i 0) bs (ftmat xs bs i) i 16 := rfl
    obtain ⟨a, hax⟩ : ∃ a, a = xs.getD i 0 := ⟨_, rfl⟩
    rw [← hax] at n1 wA hrow
    simp (config := {maxSteps := 2000000, implicitDefEqProofs := false}) only [go_sem, ↓reduceIte, Nat.reduceEqDiff, Nat.reduceAdd, Nat.reduceMul, Nat.reduceLeDiff, Nat.reduceLT, Nat.reduceSub, IntWalk.iteOmega, IntWalk.toNatUp, reduceCtorEq, false_and, and_false, false_or, or_false, true_or, or_true, not_true_eq_false, not_false_eq_true, Bool.not_true, Bool.not_false, Bool.and_true, Bool.true_and, Bool.and_false, Bool.false_and, Bool.not_eq_true, beq_self_eq_true, Nat.add_zero, Int.reduceLE, Int.reduceLT, Int.reduceToNat, Int.reduceNeg, f3, f4, f5, f12, f13, hlt', Int.toNat_natCast, n1, r1]
    have wO := ftmat_in wa wb i
    have lO := ftmat_length xs bs i
    obtain ⟨o, ho⟩ : ∃ o, o = ftmat xs bs i := ⟨_, rfl⟩
    rw [← ho] at hrow wO lO ⊢
    refine VS.loop' (fun F g => F 3 = .pointer (some ⟨bb, 0, none⟩) ∧ F 4 = .pointer (some ⟨br, 0, none⟩) ∧ F 5 = .pointer (some ⟨bt, 0, none⟩) ∧ F 12 = .agg (xs.map sv).toArray ∧ F 13 = .int .i64 i ∧ F 6 = .int .i64 i ∧ F 7 = .int .i64 a ∧ F 17 = .agg (bs.map sv).toArray ∧ ∃ k : Nat, k ≤ 16 ∧ F 18 = .int .i64 k ∧ g = H.setIfInBounds bt (.cells ((ftrow a bs o i k).map sv).toArray 83))
      (fun F _ => 16 - (vi (F 18)).toNat) rfl ⟨f3, f4, f5, f12, f13, rfl, rfl, rfl, 0, by omega, rfl, rfl⟩ ?_
    clear f3 f4 f5 f12 f13 F
    rintro F g ⟨f3, f4, f5, f12, f13, f6, f7, f17, k, hk, f18, rfl⟩
    by_cases hlk : k < 16
    · have hlk' : (k : Int) < 16 := by omega
      have n2 := nth_sv (l := bs) (i := k) (by omega)
      have wB := wb.getD (by omega) k
      have hstep : ftrow a bs o i (k + 1) = (ftrow a bs o i k).set (i + k) ((ftrow a bs o i k).getD (i + k) 0 + a * bs.getD k 0) := rfl
      obtain ⟨b, hbx⟩ : ∃ b, b = bs.getD k 0 := ⟨_, rfl⟩
      rw [← hbx] at n2 wB hstep
      have wR := ftrow_in wO (by omega) wA wb (i := i) k
      have lR : (ftrow a bs o i k).length = 31 := by rw [ftrow_length, lO]
      have hx := cells_new (o := .cells ((ftrow a bs o i k).map sv).toArray 83) H3
      have hp := fmul_bound wA wB
      obtain ⟨r, hr⟩ : ∃ r, r = ftrow a bs o i k := ⟨_, rfl⟩
      rw [← hr] at hstep wR lR hx ⊢
      obtain ⟨G, hG⟩ : ∃ G, G = H.setIfInBounds bt (.cells (r.map sv).toArray 83) := ⟨_, rfl⟩
      rw [← hG] at hx ⊢
      have eik : (i : Int) + (k : Int) = ((i + k : Nat) : Int) := rfl
      have h31 : ((i + k : Nat) : Int) < 31 := by omega
      have g1 := icells_get hx (i := i + k) (by omega)
      have y1 := wR.getD (by omega) (i + k)
      obtain ⟨y, hy⟩ : ∃ y, y = r.getD (i + k) 0 := ⟨_, rfl⟩
      rw [← hy] at g1 y1 hstep
      obtain ⟨q, hq⟩ : ∃ q, q = a * b := ⟨_, rfl⟩
      have hq' : a * b = q := hq.symm
      rw [hq'] at hp hstep
      have c1 : wr1 G ⟨bt, i + k, none⟩ (.int .i64 (y + q)) = _ := icells_set hx (i := i + k) (by omega) (y + q)
      simp (config := {maxSteps := 2000000, implicitDefEqProofs := false}) only [go_sem, ↓reduceIte, Nat.reduceEqDiff, Nat.reduceAdd, Nat.reduceMul, Nat.reduceLeDiff, Nat.reduceLT, Nat.reduceSub, IntWalk.iteOmega, IntWalk.toNatUp, reduceCtorEq, false_and, and_false, false_or, or_false, true_or, or_true, not_true_eq_false, not_false_eq_true, Bool.not_true, Bool.not_false, Bool.and_true, Bool.true_and, Bool.and_false, Bool.false_and, Bool.not_eq_true, beq_self_eq_true, Nat.add_zero, Int.reduceLE, Int.reduceLT, Int.reduceToNat, Int.reduceNeg, f3, f4, f5, f6, f7, f12, f13, f17, f18, hlk', Int.toNat_natCast, Nat.zero_add, n2, eik, h31, g1, hq', c1]
      refine ⟨⟨f3, f4, f5, f12, f13, f6, f7, f17, k + 1, hlk, rfl, ?_⟩, ?_⟩
      · rw [hG, set_set, hstep]
      · simp only [vi, updo_some, ↓reduceIte, f18]; omega
    · have hge : ¬ (k : Int) < 16 := by omega
      obtain rfl : k = 16 := by omega
      have c16 : ((16 : Nat) : Int) = 16 := rfl
      rw [c16] at f18 hge
      simp (config := {maxSteps := 2000000, implicitDefEqProofs := false}) only [go_sem, ↓reduceIte, Nat.reduceEqDiff, Nat.reduceAdd, Nat.reduceMul, Nat.reduceLeDiff, Nat.reduceLT, Nat.reduceSub, IntWalk.iteOmega, IntWalk.toNatUp, reduceCtorEq, false_and, and_false, false_or, or_false, true_or, or_true, not_true_eq_false, not_false_eq_true, Bool.not_true, Bool.not_false, Bool.and_true, Bool.true_and, Bool.and_false, Bool.false_and, Bool.not_eq_true, beq_self_eq_true, Nat.add_zero, Int.reduceLE, Int.reduceLT, Int.reduceToNat, Int.reduceNeg, f3, f4, f5, f12, f13, f18, hge]
      refine ⟨⟨f3, f4, f5, f12, i + 1, hlt, rfl, ?_⟩, ?_⟩
      · rw [hrow]
      · simp only [vi, updo_some, ↓reduceIte, f13]; omega
  · have hge : ¬ (i : Int) < 16 := by omega
    obtain rfl : i = 16 := by omega
    have c16 : ((16 : Nat) : Int) = 16 := rfl
    rw [c16] at f13 hge
    have hx := cells_new (o := .cells ((ftmat xs bs 16).map sv).toArray 83) H3
    have hx2 : (H.setIfInBounds bt (.cells ((ftmat xs bs 16).map sv).toArray 83))[br]? = some (fldC (List.replicate 16 0)) := by rw [Array.getElem?_setIfInBounds, if_neg (by omega)]; exact H2
    have HB2 := HB.addSet (b := bt) (by omega) (.cells ((ftmat xs bs 16).map sv).toArray 83)
    have HS2 : (H.setIfInBounds bt (.cells ((ftmat xs bs 16).map sv).toArray 83)).size = bt + 1 := by rw [Array.size_setIfInBounds, Hs, hbt]
    have wM := ftmat_in wa wb 16
    have lM := ftmat_length xs bs 16
    have hft : ftimes xs bs = fcN (fcN (ffold (ftmat xs bs 16) 16) 16) 16 := rfl
    obtain ⟨t, ht⟩ : ∃ t, t = ftmat xs bs 16 := ⟨_, rfl⟩
    rw [← ht] at hx hx2 HB2 HS2 wM lM hft ⊢
    generalize H.setIfInBounds bt (.cells (t.map sv).toArray 83) = G at *
    rw [hft]
    have z16 : (#[Value.int .i64 0, .int .i64 0, .int .i64 0, .int .i64 0, .int .i64 0, .int .i64 0, .int .i64 0, .int .i64 0, .int .i64 0, .int .i64 0, .int .i64 0, .int .i64 0, .int .i64 0, .int .i64 0, .int .i64 0, .int .i64 0] : Array Value) = ((ffold t 0).map sv).toArray := rfl
    have hG1 : (G.push (fldC (ffold t 0)))[bt]? = some (.cells (t.map sv).toArray 83) := by rw [get_push_ne (by omega)]; exact hx
    have hG2 : (G.push (fldC (ffold t 0)))[br]? = some (fldC (List.replicate 16 0)) := by rw [get_push_ne (by omega)]; exact hx2
    have hG3 : (G.push (fldC (ffold t 0)))[bt + 1]? = some (fldC (ffold t 0)) := by rw [← HS2]; exact get_push_last
    have hG4 := HB2.addP HB2.size (fldC (ffold t 0))
    simp (config := {maxSteps := 2000000, implicitDefEqProofs := false}) only [go_sem, ↓reduceIte, Nat.reduceEqDiff, Nat.reduceAdd, Nat.reduceMul, Nat.reduceLeDiff, Nat.reduceLT, Nat.reduceSub, IntWalk.iteOmega, IntWalk.toNatUp, reduceCtorEq, false_and, and_false, false_or, or_false, true_or, or_true, not_true_eq_false, not_false_eq_true, Bool.not_true, Bool.not_false, Bool.and_true, Bool.true_and, Bool.and_false, Bool.false_and, Bool.not_eq_true, beq_self_eq_true, Nat.add_zero, Int.reduceLE, Int.reduceLT, Int.reduceToNat, Int.reduceNeg, f3, f4, f5, f12, f13, hge, HS2]
    rw [z16]
    obtain ⟨J, hJ⟩ : ∃ J, J = G.push (fldC (ffold t 0)) := ⟨_, rfl⟩
    have hJ2 : G.push (.cells ((ffold t 0).map sv).toArray 65) = J := by rw [hJ]; rfl
    rw [hJ2]
    rw [← hJ] at hG1 hG2 hG3 hG4
    clear hJ hJ2 z16
    refine VS.loop' (fun F g => F 4 = .pointer (some ⟨br, 0, none⟩) ∧ F 5 = .pointer (some ⟨bt, 0, none⟩) ∧ F 10 = .pointer (some ⟨bt + 1, 0, none⟩) ∧ ∃ i : Nat, i ≤ 16 ∧ F 34 = .int .i64 i ∧ g = J.setIfInBounds (bt + 1) (fldC (ffold t i)))
      (fun F _ => 16 - (vi (F 34)).toNat) rfl ⟨f4, f5, rfl, 0, by omega, rfl, (set_same hG3).symm⟩ ?_
    clear f3 f4 f5 f12 f13 F
    rintro F g ⟨f4, f5, f10, i, hi, f34, rfl⟩
    have hK0 := ffold_in wM (by omega) i
    have hy := cells_new (o := fldC (ffold t i)) hG3
    have hu : (J.setIfInBounds (bt + 1) (fldC (ffold t i)))[bt]? = some (.cells (t.map sv).toArray 83) := by rw [Array.getElem?_setIfInBounds, if_neg (by omega)]; exact hG1
    have lf := ffold_length t i
    by_cases hlt : i < 16
    · have hlt' : (i : Int) < 16 := by omega
      have hnext : ffold t (i + 1) = (ffold t i).set i (t.getD i 0 + 38 * t.getD (i + 16) 0) := rfl
      have b1 : -70368744177664 ≤ t.getD i 0 ∧ t.getD i 0 ≤ 70368744177664 := by have := wM.getD (by omega) i; omega
      have b2 : -70368744177664 ≤ t.getD (i + 16) 0 ∧ t.getD (i + 16) 0 ≤ 70368744177664 := by have := wM.getD (by omega) (i + 16); omega
      obtain ⟨a, haa⟩ : ∃ a, a = ffold t i := ⟨_, rfl⟩
      rw [← haa] at hnext hy hu lf ⊢
      obtain ⟨G, hG⟩ : ∃ G, G = J.setIfInBounds (bt + 1) (fldC a) := ⟨_, rfl⟩
      rw [← hG] at hy hu ⊢
      have g1 := icells_get hu (i := i) (by omega)
      have g2 : i < 15 → hc G ⟨bt, i + 16, none⟩ = some (.int .i64 (t.getD (i + 16) 0)) := fun h => icells_get hu (i := i + 16) (by omega)
      have g0 : ¬ i < 15 → t.getD (i + 16) 0 = 0 := fun h => by rw [List.getD_eq_getElem?_getD, List.getElem?_eq_none (by omega)]; rfl
      obtain ⟨x, hxx⟩ : ∃ x, x = t.getD i 0 := ⟨_, rfl⟩
      rw [← hxx] at g1 b1 hnext
      obtain ⟨y, hyy⟩ : ∃ y, y = t.getD (i + 16) 0 := ⟨_, rfl⟩
      rw [← hyy] at g2 g0 b2 hnext
      have c1 : wr1 G ⟨bt + 1, i, none⟩ (.int .i64 x) = _ := icells_set hy (i := i) (by omega) x
      have hy1 := cells_new (o := .cells ((a.set i x).map sv).toArray 65) hy
      have hu1 : (G.setIfInBounds (bt + 1) (.cells ((a.set i x).map sv).toArray 65))[bt]? = some (.cells (t.map sv).toArray 83) := by rw [Array.getElem?_setIfInBounds, if_neg (by omega)]; exact hu
      have la1 : (a.set i x).length = 16 := by rw [List.length_set, lf]
      have gx : (a.set i x).getD i 0 = x := by rw [List.getD_eq_getElem?_getD, List.getElem?_set_self (by omega)]; rfl
      have gs : (a.set i x).set i (x + 38 * y) = a.set i (x + 38 * y) := by rw [List.set_set]
      obtain ⟨a1, ha1⟩ : ∃ a1, a1 = a.set i x := ⟨_, rfl⟩
      rw [← ha1] at hy1 hu1 la1 gx gs c1
      obtain ⟨G1, hG1'⟩ : ∃ G1, G1 = G.setIfInBounds (bt + 1) (.cells (a1.map sv).toArray 65) := ⟨_, rfl⟩
      rw [← hG1'] at hy1 hu1 c1
      by_cases h15 : i < 15
      · have h15' : (i : Int) < 15 := by omega
        have g2' := icells_get hu1 (i := i + 16) (by omega)
        have g3 := icells_get hy1 (i := i) (by omega)
        rw [gx] at g3
        have ei : (i : Int) + 16 = ((i + 16 : Nat) : Int) := rfl
        have h31 : ((i + 16 : Nat) : Int) < 31 := by omega
        simp (config := {maxSteps := 2000000, implicitDefEqProofs := false}) only [go_sem, ↓reduceIte, Nat.reduceEqDiff, Nat.reduceAdd, Nat.reduceMul, Nat.reduceLeDiff, Nat.reduceLT, Nat.reduceSub, IntWalk.iteOmega, IntWalk.toNatUp, reduceCtorEq, false_and, and_false, false_or, or_false, true_or, or_true, not_true_eq_false, not_false_eq_true, Bool.not_true, Bool.not_false, Bool.and_true, Bool.true_and, Bool.and_false, Bool.false_and, Bool.not_eq_true, beq_self_eq_true, Nat.add_zero, Int.reduceLE, Int.reduceLT, Int.reduceToNat, Int.reduceNeg, f4, f5, f10, f34, hlt', Int.toNat_natCast, Nat.zero_add, g1, c1, h15']
        refine VS.w (bt + 2) [10] (.q 0 (.q 1 (.q 2 (.q 3 (.q 4 (.q 5 (.q 6 (.q 7 (.q 8 (.q 9 (.w 10 .nil))))))))))) mixed (by kernel_rfl) ?_
        have c2 : wr1 G1 ⟨bt + 1, i, none⟩ (.int .i64 (x + 38 * y)) = _ := icells_set hy1 (i := i) (by omega) (x + 38 * y)
        obtain ⟨q, hq⟩ : ∃ q, q = 38 * y := ⟨_, rfl⟩
        rw [← hq] at c2 gs hnext
        have hq' : 38 * y = q := hq.symm
        have q1 : -2674012278751232 ≤ q ∧ q ≤ 2674012278751232 := by omega
        have gl := icells_get hu1 (i := i + 16) (by omega)
        rw [← hyy] at gl
        clear hq hyy g1 g2 g2' g0 hxx
        simp (config := {maxSteps := 2000000, implicitDefEqProofs := false}) only [go_sem, ↓reduceIte, Nat.reduceEqDiff, Nat.reduceAdd, Nat.reduceMul, Nat.reduceLeDiff, Nat.reduceLT, Nat.reduceSub, IntWalk.iteOmega, IntWalk.toNatUp, reduceCtorEq, false_and, and_false, false_or, or_false, true_or, or_true, not_true_eq_false, not_false_eq_true, Bool.not_true, Bool.not_false, Bool.and_true, Bool.true_and, Bool.and_false, Bool.false_and, Bool.not_eq_true, beq_self_eq_true, Nat.add_zero, Int.reduceLE, Int.reduceLT, Int.reduceToNat, Int.reduceNeg, f4, f5, f10, f34, hlt', ei, h31, Int.toNat_natCast, Nat.zero_add, g3, gl, hq', c2]
        refine ⟨⟨f4, f5, f10, i + 1, hlt, rfl, ?_⟩, ?_⟩
        · rw [hG1', set_set, hG, set_set, hnext, ← gs]; rfl
        · simp only [vi, updo_some, ↓reduceIte, f34]; omega
      · have h15' : ¬ (i : Int) < 15 := by omega
        have y0 := g0 h15
        simp (config := {maxSteps := 2000000, implicitDefEqProofs := false}) only [go_sem, ↓reduceIte, Nat.reduceEqDiff, Nat.reduceAdd, Nat.reduceMul, Nat.reduceLeDiff, Nat.reduceLT, Nat.reduceSub, IntWalk.iteOmega, IntWalk.toNatUp, reduceCtorEq, false_and, and_false, false_or, or_false, true_or, or_true, not_true_eq_false, not_false_eq_true, Bool.not_true, Bool.not_false, Bool.and_true, Bool.true_and, Bool.and_false, Bool.false_and, Bool.not_eq_true, beq_self_eq_true, Nat.add_zero, Int.reduceLE, Int.reduceLT, Int.reduceToNat, Int.reduceNeg, f4, f5, f10, f34, hlt', Int.toNat_natCast, Nat.zero_add, g1, c1, h15']
        refine ⟨⟨f4, f5, f10, i + 1, hlt, rfl, ?_⟩, ?_⟩
        · rw [hG1', hG, set_set, hnext, ha1, y0, Int.mul_zero, Int.add_zero]; rfl
        · simp only [vi, updo_some, ↓reduceIte, f34]; omega
    · have hge : ¬ (i : Int) < 16 := by omega
      obtain rfl : i = 16 := by omega
      have c16 : ((16 : Nat) : Int) = 16 := rfl
      rw [c16] at f34 hge
      have hz : (J.setIfInBounds (bt + 1) (fldC (ffold t 16)))[br]? = some (fldC (List.replicate 16 0)) := by rw [Array.getElem?_setIfInBounds, if_neg (by omega)]; exact hG2
      have HB3 : Bel h.size h (J.setIfInBounds (bt + 1) (fldC (ffold t 16))) := hG4.addSet (by omega) _
      obtain ⟨s, hs⟩ : ∃ s, s = ffold t 16 := ⟨_, rfl⟩
      rw [← hs] at hy hK0 lf hz HB3 ⊢
      generalize J.setIfInBounds (bt + 1) (fldC s) = G at *
      have w1 : InK (2 ^ 52) s := hK0.mono (by decide)
      simp (config := {maxSteps := 2000000, implicitDefEqProofs := false}) only [go_sem, ↓reduceIte, Nat.reduceEqDiff, Nat.reduceAdd, Nat.reduceMul, Nat.reduceLeDiff, Nat.reduceLT, Nat.reduceSub, IntWalk.iteOmega, IntWalk.toNatUp, reduceCtorEq, false_and, and_false, false_or, or_false, true_or, or_true, not_true_eq_false, not_false_eq_true, Bool.not_true, Bool.not_false, Bool.and_true, Bool.true_and, Bool.and_false, Bool.false_and, Bool.not_eq_true, beq_self_eq_true, Nat.add_zero, Int.reduceLE, Int.reduceLT, Int.reduceToNat, Int.reduceNeg, f4, f5, f10, f34, hge]
      refine (fldCarry_ok T G (bt + 1) s lf (w1.mono (by decide)) hy).use ?_
      rintro _ _ rfl
      have w2 : InK (2 ^ 53) (fcN s 16) := (fcN_in w1 (by decide) (by decide) 16 (by omega)).mono (by decide)
      have l2 : (fcN s 16).length = 16 := by rw [fcN_length, lf]
      have hy2 := cells_new (o := fldC (fcN s 16)) hy
      have hz2 : (G.setIfInBounds (bt + 1) (fldC (fcN s 16)))[br]? = some (fldC (List.replicate 16 0)) := by rw [Array.getElem?_setIfInBounds, if_neg (by omega)]; exact hz
      have HB4 : Bel h.size h (G.setIfInBounds (bt + 1) (fldC (fcN s 16))) := HB3.addSet (by omega) _
      generalize G.setIfInBounds (bt + 1) (fldC (fcN s 16)) = G2 at *
      generalize fcN s 16 = s2 at *
      simp (config := {maxSteps := 2000000, implicitDefEqProofs := false}) only [go_sem, ↓reduceIte, Nat.reduceEqDiff, Nat.reduceAdd, Nat.reduceMul, Nat.reduceLeDiff, Nat.reduceLT, Nat.reduceSub, IntWalk.iteOmega, IntWalk.toNatUp, reduceCtorEq, false_and, and_false, false_or, or_false, true_or, or_true, not_true_eq_false, not_false_eq_true, Bool.not_true, Bool.not_false, Bool.and_true, Bool.true_and, Bool.and_false, Bool.false_and, Bool.not_eq_true, beq_self_eq_true, Nat.add_zero, Int.reduceLE, Int.reduceLT, Int.reduceToNat, Int.reduceNeg, f4, f5, f10]
      refine (fldCarry_ok T G2 (bt + 1) s2 l2 (w2.mono (by decide)) hy2).use ?_
      rintro _ _ rfl
      have l3 : (fcN s2 16).length = 16 := by rw [fcN_length, l2]
      have hy3 := cells_new (o := fldC (fcN s2 16)) hy2
      have hz3 : (G2.setIfInBounds (bt + 1) (fldC (fcN s2 16)))[br]? = some (fldC (List.replicate 16 0)) := by rw [Array.getElem?_setIfInBounds, if_neg (by omega)]; exact hz2
      have HB5 : Bel h.size h (G2.setIfInBounds (bt + 1) (fldC (fcN s2 16))) := HB4.addSet (by omega) _
      generalize G2.setIfInBounds (bt + 1) (fldC (fcN s2 16)) = G3 at *
      generalize fcN s2 16 = s3 at *
      have r3 := rd_fld l3 hy3
      have lc : (s3.map sv).length = 16 := by simpa using l3
      have w4 := wr_get (h := G3) (b := br) (l := ((List.replicate 16 (0 : Int)).map sv)) hz3 0 (s3.map sv)
      have ho4 : (s3.map sv).all oneC = true := by simp [sv, oneC]
      rw [if_pos ⟨by simp [lc], ho4⟩, lput_full (by simp [lc])] at w4
      have tc : (s3.map sv).take 16 = s3.map sv := List.take_of_length_le (by omega)
      have hlr := lt_of_get hz3
      simp (config := {maxSteps := 2000000, implicitDefEqProofs := false}) only [go_sem, ↓reduceIte, Nat.reduceEqDiff, Nat.reduceAdd, Nat.reduceMul, Nat.reduceLeDiff, Nat.reduceLT, Nat.reduceSub, IntWalk.iteOmega, IntWalk.toNatUp, reduceCtorEq, false_and, and_false, false_or, or_false, true_or, or_true, not_true_eq_false, not_false_eq_true, Bool.not_true, Bool.not_false, Bool.and_true, Bool.true_and, Bool.and_false, Bool.false_and, Bool.not_eq_true, beq_self_eq_true, Nat.add_zero, Int.reduceLE, Int.reduceLT, Int.reduceToNat, Int.reduceNeg, f4, f5, f10, r3, w4, lc, tc, hlr]
      exact HB5.addSet (by omega) _
end Go.Proofs.Ytiakfdpmapmifaa
