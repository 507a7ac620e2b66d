/- The bounds after carrying, in plain numbers; no condition but those in the statements. -/
import Derived.Test.YtiakfdpmapmifaaFldw
namespace Go.Proofs.Ytiakfdpmapmifaa
open Go Go.V
set_option linter.unusedSimpArgs false
set_option linter.unusedVariables false
set_option maxRecDepth 100000
/-- What is carried into cell i. -/
def fcin (l : List Int) : Nat → Int
  | 0 => 0
  | i + 1 => (l.getD i 0 + fcin l i) / 65536
theorem igetD_set_eq {l : List Int} {i : Nat} {x : Int} (h : i < l.length) : (l.set i x).getD i 0 = x := by
  rw [List.getD_eq_getElem?_getD, List.getElem?_set_self h]; rfl
theorem igetD_get {l : List Int} {j : Nat} (h : j < l.length) : l.getD j 0 = l[j] := by
  rw [List.getD_eq_getElem?_getD, List.getElem?_eq_getElem h]; rfl
theorem fcN_at {l : List Int} (hl : l.length = 16) : ∀ i, i ≤ 15 → ∀ j, j < 16 → (fcN l i).getD j 0 = if j < i then (l.getD j 0 + fcin l j) % 65536 else if j = i then l.getD j 0 + fcin l j else l.getD j 0
  | 0, _, j, hj => by
    rw [if_neg (by omega)]
    by_cases e : j = 0
    · subst e; rw [if_pos rfl]; simp [fcN, fcin]
    · rw [if_neg e]; rfl
  | i + 1, hi, j, hj => by
    have ih := fcN_at hl i (by omega)
    have h0 := ih i (by omega)
    rw [if_neg (by omega), if_pos rfl] at h0
    have ln : (fcN l i).length = 16 := by rw [fcN_length, hl]
    have hs : fcN l (i + 1) = ((fcN l i).set i ((fcN l i).getD i 0 % 65536)).set (i + 1) (((fcN l i).set i ((fcN l i).getD i 0 % 65536)).getD (i + 1) 0 + (fcN l i).getD i 0 / 65536) := by
      rw [fcN, fc1, if_pos (by omega)]
    rw [hs, h0, igetD_set_ne (i := i) (j := i + 1) (by omega)]
    have h1 := ih (i + 1) (by omega)
    rw [if_neg (by omega), if_neg (by omega)] at h1
    rw [h1]
    by_cases e1 : j = i + 1
    · subst e1
      rw [igetD_set_eq (by rw [List.length_set, ln]; omega), if_neg (by omega), if_pos rfl, fcin]
    · rw [igetD_set_ne (by omega)]
      by_cases e2 : j = i
      · subst e2
        rw [igetD_set_eq (by rw [ln]; omega), if_pos (by omega)]
      · rw [igetD_set_ne (by omega), ih j hj]
        by_cases e3 : j < i
        · rw [if_pos e3, if_pos (by omega)]
        · rw [if_neg e3, if_neg e2, if_neg (by omega), if_neg e1]
theorem fcN_all {l : List Int} (hl : l.length = 16) {j : Nat} (hj : j < 16) :
    (fcN l 16).getD j 0 = if j = 0 then (l.getD 0 0 + fcin l 0) % 65536 + 38 * fcin l 16 else (l.getD j 0 + fcin l j) % 65536 := by
  have ln : (fcN l 15).length = 16 := by rw [fcN_length, hl]
  have hs : fcN l 16 = ((fcN l 15).set 15 ((fcN l 15).getD 15 0 % 65536)).set 0 (((fcN l 15).set 15 ((fcN l 15).getD 15 0 % 65536)).getD 0 0 + 38 * ((fcN l 15).getD 15 0 / 65536)) := by
    rw [show (16 : Nat) = 15 + 1 from rfl, fcN, fc1, if_neg (by omega)]
  have h0 := fcN_at hl 15 (by omega) 15 (by omega)
  rw [if_neg (by omega), if_pos rfl] at h0
  have h1 := fcN_at hl 15 (by omega) 0 (by omega)
  rw [if_pos (by omega)] at h1
  rw [hs, h0, igetD_set_ne (i := 15) (j := 0) (by omega), h1]
  by_cases e : j = 0
  · subst e
    rw [igetD_set_eq (by rw [List.length_set, ln]; omega), if_pos rfl]
    rfl
  · rw [igetD_set_ne (by omega), if_neg e]
    by_cases e2 : j = 15
    · subst e2; rw [igetD_set_eq (by rw [ln]; omega)]
    · rw [igetD_set_ne (by omega), fcN_at hl 15 (by omega) j hj, if_pos (by omega)]
/-- Cells 1 to 15 are digits, cell 0 is near. -/
def Near (b : Int) (l : List Int) : Prop := l.length = 16 ∧ (-b ≤ l.getD 0 0 ∧ l.getD 0 0 ≤ 65535 + b) ∧ ∀ j, 1 ≤ j → j < 16 → 0 ≤ l.getD j 0 ∧ l.getD j 0 < 65536
theorem fcin_big {K : Int} {l : List Int} (w : InK K l) (hK : 65536 ≤ K) : ∀ i, -K ≤ fcin l i ∧ fcin l i ≤ K
  | 0 => by rw [fcin]; omega
  | i + 1 => by
    have h := fcin_big w hK i
    have h2 := w.getD (by omega) i
    rw [fcin]
    omega
theorem near_one {l : List Int} (hl : l.length = 16) (w : InK (2 ^ 52) l) : Near (2 ^ 43) (fcN l 16) := by
  have c16 : -68719476737 * 2 ≤ fcin l 16 ∧ fcin l 16 ≤ 68719476737 * 2 := by
    have h := fcin_big w (by decide) 15
    have h2 := w.getD (by decide) 15
    rw [fcin]
    have e : (2 : Int) ^ 52 = 4503599627370496 := rfl
    rw [e] at h h2
    omega
  refine ⟨by rw [fcN_length, hl], ?_, ?_⟩
  · rw [fcN_all hl (by omega), if_pos rfl]
    have e : (2 : Int) ^ 43 = 8796093022208 := rfl
    rw [e]
    omega
  · intro j h1 h2
    rw [fcN_all hl h2, if_neg (by omega)]
    omega
theorem fcin_mid {l : List Int} (w : Near (2 ^ 43) l) : -134217729 ≤ fcin l 1 ∧ fcin l 1 ≤ 134217729 := by
  have h := w.2.1
  have e : (2 : Int) ^ 43 = 8796093022208 := rfl
  rw [e] at h
  rw [fcin, fcin]
  omega
theorem fcin_small {l : List Int} (w : Near (2 ^ 43) l) : ∀ i, 3 ≤ i → i ≤ 16 → -1 ≤ fcin l i ∧ fcin l i ≤ 1 := by
  have h1 := fcin_mid w
  have h2 : -2050 ≤ fcin l 2 ∧ fcin l 2 ≤ 2050 := by
    have := w.2.2 1 (by omega) (by omega)
    rw [fcin]; omega
  intro i
  induction i with
  | zero => intro h; omega
  | succ i ih =>
    intro h3 h4
    by_cases e : i = 2
    · subst e
      have := w.2.2 2 (by omega) (by omega)
      rw [fcin]; omega
    · have := ih (by omega) (by omega)
      have := w.2.2 i (by omega) (by omega)
      rw [fcin]; omega
theorem near_two {l : List Int} (w : Near (2 ^ 43) l) : Near 38 (fcN l 16) := by
  have hl := w.1
  have c := fcin_small w 16 (by omega) (by omega)
  refine ⟨by rw [fcN_length, hl], ?_, ?_⟩
  · rw [fcN_all hl (by omega), if_pos rfl]; omega
  · intro j h1 h2
    rw [fcN_all hl h2, if_neg (by omega)]
    omega
/-- After a product: cells 1 to 15 are digits, cell 0 within 38 of one. -/
theorem ftimes_near {xs ys : List Int} (wa : InK 524288 xs) (wb : InK 524288 ys) : Near 38 (ftimes xs ys) :=
  near_two (near_one (ffold_length _ _) ((ffold_in (ftmat_in wa wb 16) (by decide) 16).mono (by decide)))
theorem near_down {l : List Int} (w : Near 38 l) (h0 : l.getD 0 0 < 0) : ∀ i, 1 ≤ i → i ≤ 16 → fcin l i = 0 ∨ (fcin l i = -1 ∧ ∀ j, 1 ≤ j → j < i → l.getD j 0 = 0) := by
  intro i
  induction i with
  | zero => intro h; omega
  | succ i ih =>
    intro _ h4
    by_cases e : i = 0
    · subst e
      right
      have := w.2.1
      refine ⟨?_, fun j a b => by omega⟩
      rw [fcin, fcin]; omega
    · have hd := w.2.2 i (by omega) (by omega)
      rcases ih (by omega) (by omega) with h | ⟨h, h'⟩
      · left; rw [fcin, h]; omega
      · by_cases z : l.getD i 0 = 0
        · right
          refine ⟨by rw [fcin, h, z]; decide, fun j a b => ?_⟩
          by_cases e : j = i
          · rw [e]; exact z
          · exact h' j a (by omega)
        · left; rw [fcin, h]; omega
theorem near_up {l : List Int} (w : Near 38 l) (h0 : 0 ≤ l.getD 0 0) : ∀ i, 1 ≤ i → i ≤ 16 → fcin l i = 0 ∨ (fcin l i = 1 ∧ 65536 ≤ l.getD 0 0) := by
  intro i
  induction i with
  | zero => intro h; omega
  | succ i ih =>
    intro _ h4
    by_cases e : i = 0
    · subst e
      have := w.2.1
      rw [fcin, fcin]; omega
    · have hd := w.2.2 i (by omega) (by omega)
      rcases ih (by omega) (by omega) with h | ⟨h, h'⟩
      · left; rw [fcin, h]; omega
      · rw [fcin, h]; omega
/-- A third carry leaves digits. -/
theorem near_three {l : List Int} (w : Near 38 l) : Near 0 (fcN l 16) := by
  have hl := w.1
  have h0 := w.2.1
  refine ⟨by rw [fcN_length, hl], ?_, ?_⟩
  · rw [fcN_all hl (by omega), if_pos rfl]
    have e : fcin l 0 = 0 := rfl
    rw [e]
    by_cases n : l.getD 0 0 < 0
    · rcases near_down w n 16 (by omega) (by omega) with h | ⟨h, _⟩ <;> rw [h] <;> omega
    · rcases near_up w (by omega) 16 (by omega) (by omega) with h | ⟨h, h'⟩ <;> rw [h] <;> omega
  · intro j h1 h2
    rw [fcN_all hl h2, if_neg (by omega)]
    omega
/-- Where the cells are digits, carrying changes nothing. -/
theorem near_still {l : List Int} (w : Near 0 l) : fcN l 16 = l := by
  have hl := w.1
  have hz : ∀ i, i ≤ 16 → fcin l i = 0 := by
    intro i
    induction i with
    | zero => intro _; rfl
    | succ i ih =>
      intro h
      rw [fcin, ih (by omega)]
      by_cases e : i = 0
      · subst e; have := w.2.1; omega
      · have := w.2.2 i (by omega) (by omega); omega
  refine List.ext_getElem (by rw [fcN_length]) (fun j a b => ?_)
  have hj : j < 16 := by omega
  have h := fcN_all hl hj
  rw [igetD_get a] at h
  rw [h, hz 16 (by omega), hz 0 (by omega), hz j (by omega)]
  by_cases e : j = 0
  · subst e
    have := w.2.1
    rw [if_pos rfl, ← igetD_get b]; omega
  · have := w.2.2 j (by omega) hj
    rw [if_neg e, ← igetD_get b]; omega
end Go.Proofs.Ytiakfdpmapmifaa
namespace Go.Proofs.Ytiakfdpmapmifaa
open Go Go.V
set_option linter.unusedSimpArgs false
set_option linter.unusedVariables false
set_option maxRecDepth 100000
def fpl (f : Int → Int → Int) (xs ys : List Int) : Nat → List Int
  | 0 => xs
  | i + 1 => (fpl f xs ys i).set i (f ((fpl f xs ys i).getD i 0) (ys.getD i 0))
theorem fpl_length (f : Int → Int → Int) (xs ys : List Int) : ∀ i, (fpl f xs ys i).length = xs.length
  | 0 => rfl
  | i + 1 => by rw [fpl, List.length_set, fpl_length f xs ys i]
theorem fpl_at {f : Int → Int → Int} {xs ys : List Int} : ∀ i j, (fpl f xs ys i).getD j 0 = if j < i ∧ j < xs.length then f (xs.getD j 0) (ys.getD j 0) else xs.getD j 0
  | 0, j => by rw [if_neg (by omega)]; rfl
  | i + 1, j => by
    have h := fpl_at (f := f) (xs := xs) (ys := ys) i
    rw [fpl]
    by_cases e : j = i
    · subst e
      by_cases hl : j < xs.length
      · rw [igetD_set_eq (by rw [fpl_length]; exact hl), h j, if_neg (by omega), if_pos ⟨by omega, hl⟩]
      · rw [List.set_eq_of_length_le (by rw [fpl_length]; omega), h j, if_neg (by omega), if_neg (by omega)]
    · rw [igetD_set_ne (by omega), h j]
      by_cases c : j < i ∧ j < xs.length
      · rw [if_pos c, if_pos ⟨by omega, c.2⟩]
      · rw [if_neg c, if_neg (by omega)]
def fplus (xs ys : List Int) : List Int := fpl (· + ·) xs ys 16
def fminus (xs ys : List Int) : List Int := fpl (· - ·) xs ys 16
theorem inK_of {K : Int} {l : List Int} (h : ∀ j, j < l.length → -K ≤ l.getD j 0 ∧ l.getD j 0 ≤ K) : InK K l := fun x hx => by
  obtain ⟨j, hj, rfl⟩ := List.getElem_of_mem hx
  have := h j hj
  rwa [igetD_get hj] at this
theorem fplus_in {K L : Int} {xs ys : List Int} (hK : 0 ≤ K) (hL : 0 ≤ L) (a : InK K xs) (b : InK L ys) : InK (K + L) (fplus xs ys) := inK_of fun j _ => by
  have h1 := a.getD hK j
  have h2 := b.getD hL j
  unfold fplus
  rw [fpl_at]
  split <;> (try dsimp only) <;> omega
theorem fminus_in {K L : Int} {xs ys : List Int} (hK : 0 ≤ K) (hL : 0 ≤ L) (a : InK K xs) (b : InK L ys) : InK (K + L) (fminus xs ys) := inK_of fun j _ => by
  have h1 := a.getD hK j
  have h2 := b.getD hL j
  unfold fminus
  rw [fpl_at]
  split <;> (try dsimp only) <;> omega
theorem fplus_val {xs ys : List Int} (ha : xs.length = 16) (hb : ys.length = 16) : vF (fplus xs ys) = vF xs + vF ys := by
  rw [vF_vS, vF_vS, vF_vS, ha, hb, show (fplus xs ys).length = 16 by unfold fplus; rw [fpl_length, ha]]
  have h := vS_lin (fun i => xs.getD i 0) (fun i => ys.getD i 0) 1 16
  rw [Int.one_mul] at h
  rw [← h]
  refine vS_congr 16 fun i hi => ?_
  unfold fplus
  rw [fpl_at, if_pos ⟨hi, by omega⟩, Int.one_mul]
theorem fminus_val {xs ys : List Int} (ha : xs.length = 16) (hb : ys.length = 16) : vF (fminus xs ys) = vF xs - vF ys := by
  rw [vF_vS, vF_vS, vF_vS, ha, hb, show (fminus xs ys).length = 16 by unfold fminus; rw [fpl_length, ha]]
  have h := vS_lin (fun i => xs.getD i 0) (fun i => ys.getD i 0) (-1) 16
  rw [show vS (fun i => xs.getD i 0) 16 - vS (fun i => ys.getD i 0) 16 = vS (fun i => xs.getD i 0) 16 + -1 * vS (fun i => ys.getD i 0) 16 by omega, ← h]
  refine vS_congr 16 fun i hi => ?_
  unfold fminus
  rw [fpl_at, if_pos ⟨hi, by omega⟩]
  show _ - _ = _
  omega
set_option maxHeartbeats 1000000 in
theorem fldPlus_ok (T : World) (h : Hp) (xs ys : List Int) (ha : xs.length = 16) (hb : ys.length = 16) (wa : InK 1073741824 xs) (wb : InK 1073741824 ys) :
    CallsH Try.prog T 40 #[.agg (xs.map sv).toArray, .agg (ys.map sv).toArray] h fun v' h' => v' = .agg ((fplus xs ys).map sv).toArray ∧ Bel h.size h h' := by
  have la : (xs.map sv).length = 16 := by simpa using ha
  have lb : (ys.map sv).length = 16 := by simpa using hb
  have ta : (xs.map sv).take 16 = xs.map sv := List.take_of_length_le (by omega)
  refine CallsH.of_code2 (args := [_, _]) Try.func40 rfl rfl rfl rfl ?_
  have z16 : (#[Value.int .i64 0, .int .i64 0, .int .i64 0, .int .i64 0, .int .i64 0, .int .i64 0, .int .i64 0, .int .i64 0, .int .i64 0, .int .i64 0, .int .i64 0, .int .i64 0, .int .i64 0, .int .i64 0, .int .i64 0, .int .i64 0] : Array Value) = ((List.replicate 16 (0 : Int)).map sv).toArray := rfl
  simp (config := {maxSteps := 2000000, implicitDefEqProofs := false}) only [go_sem, ↓reduceIte, Nat.reduceEqDiff, Nat.reduceAdd, Nat.reduceMul, Nat.reduceLeDiff, Nat.reduceLT, Nat.reduceSub, IntWalk.iteOmega, IntWalk.toNatUp, reduceCtorEq, false_and, and_false, false_or, or_false, true_or, or_true, not_true_eq_false, not_false_eq_true, Bool.not_true, Bool.not_false, Bool.and_true, Bool.true_and, Bool.and_false, Bool.false_and, Bool.not_eq_true, beq_self_eq_true, Nat.add_zero, Int.reduceLE, Int.reduceLT, Int.reduceToNat, Int.reduceNeg, la, lb, ta]
  rw [z16]
  obtain ⟨H, hH⟩ : ∃ H : Hp, H = (((h.push (fldC xs)).push (fldC ys)).push (fldC (List.replicate 16 0))) := ⟨_, rfl⟩
  have HB : Bel h.size h H := by rw [hH]; exact ((Bel.push (Nat.le_refl _) _).addP (by simp) _).addP (by simp; omega) _
  have Hs : H.size = h.size + 1 + 1 + 1 := by rw [hH]; simp
  have H0 : H[h.size]? = some (fldC xs) := by
    have := get_push_last (h := h) (o := fldC xs)
    rw [hH, get_push_ne (by simp; omega), get_push_ne (by simp), this]
  have H1 : H[h.size + 1]? = some (fldC ys) := by
    have := get_push_last (h := h.push (fldC xs)) (o := fldC ys)
    rw [Array.size_push] at this
    rw [hH, get_push_ne (by simp), this]
  have H2 : H[h.size + 1 + 1]? = some (fldC (List.replicate 16 0)) := by
    have := get_push_last (h := (h.push (fldC xs)).push (fldC ys)) (o := fldC (List.replicate 16 0))
    rw [Array.size_push, Array.size_push] at this
    rw [hH, this]
  have hfold : (((h.push (.cells (xs.map sv).toArray 65)).push (.cells (ys.map sv).toArray 65)).push (.cells ((List.replicate 16 (0 : Int)).map sv).toArray 65)) = H := by rw [hH]; rfl
  rw [hfold]
  clear hH hfold z16
  obtain ⟨br, hbr⟩ : ∃ b, b = h.size + 1 + 1 := ⟨_, rfl⟩
  obtain ⟨bb, hbb⟩ : ∃ b, b = h.size + 1 := ⟨_, rfl⟩
  obtain ⟨ba, hba⟩ : ∃ b, b = h.size := ⟨_, rfl⟩
  rw [← hbr] at H2 ⊢
  rw [← hbb] at H1 ⊢
  rw [← hba] at H0 HB ⊢
  refine VS.loop' (fun F g => F 2 = .pointer (some ⟨ba, 0, none⟩) ∧ F 3 = .pointer (some ⟨bb, 0, none⟩) ∧ F 4 = .pointer (some ⟨br, 0, none⟩) ∧ ∃ i : Nat, i ≤ 16 ∧ F 6 = .int .i64 i ∧ g = H.setIfInBounds ba (fldC (fpl (· + ·) xs ys i)))
    (fun F _ => 16 - (vi (F 6)).toNat) rfl ⟨rfl, rfl, rfl, 0, by omega, rfl, (set_same H0).symm⟩ ?_
  rintro F g ⟨f2, f3, f4, i, hi, f6, rfl⟩
  have hx := cells_new (o := fldC (fpl (· + ·) xs ys i)) H0
  have hy : (H.setIfInBounds ba (fldC (fpl (· + ·) xs ys i)))[bb]? = some (fldC ys) := by rw [Array.getElem?_setIfInBounds, if_neg (by omega)]; exact H1
  have lf := fpl_length (· + ·) xs ys i
  by_cases hlt : i < 16
  · have hlt' : (i : Int) < 16 := by omega
    have hnext : fpl (· + ·) xs ys (i + 1) = (fpl (· + ·) xs ys i).set i ((fpl (· + ·) xs ys i).getD i 0 + ys.getD i 0) := rfl
    have b1 := wa.getD (by omega) i
    have b2 := wb.getD (by omega) i
    have ex : (fpl (· + ·) xs ys i).getD i 0 = xs.getD i 0 := by rw [fpl_at, if_neg (by omega)]
    rw [ex] at hnext
    obtain ⟨a, haa⟩ : ∃ a, a = fpl (· + ·) xs ys i := ⟨_, rfl⟩
    rw [← haa] at hnext hx hy lf ex ⊢
    have g1 := icells_get hx (i := i) (by omega)
    have g2 := icells_get hy (i := i) (by omega)
    rw [ex] at g1
    clear ex haa
    obtain ⟨x, hxx⟩ : ∃ x, x = xs.getD i 0 := ⟨_, rfl⟩
    rw [← hxx] at g1 b1 hnext
    obtain ⟨y, hyy⟩ : ∃ y, y = ys.getD i 0 := ⟨_, rfl⟩
    rw [← hyy] at g2 b2 hnext
    obtain ⟨G, hG⟩ : ∃ G, G = H.setIfInBounds ba (fldC a) := ⟨_, rfl⟩
    rw [← hG] at hx hy g1 g2 ⊢
    have c1 : wr1 G ⟨ba, i, none⟩ (.int .i64 (x + y)) = _ := icells_set hx (i := i) (by omega) (x + y)
    clear hxx hyy
    simp (config := {maxSteps := 2000000, implicitDefEqProofs := false}) only [go_sem, ↓reduceIte, Nat.reduceEqDiff, Nat.reduceAdd, Nat.reduceMul, Nat.reduceLeDiff, Nat.reduceLT, Nat.reduceSub, IntWalk.iteOmega, IntWalk.toNatUp, reduceCtorEq, false_and, and_false, false_or, or_false, true_or, or_true, not_true_eq_false, not_false_eq_true, Bool.not_true, Bool.not_false, Bool.and_true, Bool.true_and, Bool.and_false, Bool.false_and, Bool.not_eq_true, beq_self_eq_true, Nat.add_zero, Int.reduceLE, Int.reduceLT, Int.reduceToNat, Int.reduceNeg, f2, f3, f4, f6, hlt', Int.toNat_natCast]
    refine VS.w (br) [8] (.q 0 (.q 1 (.q 2 (.q 3 (.q 4 (.q 5 (.q 6 (.q 7 (.w 8 .nil))))))))) mixed (by kernel_rfl) ?_
    simp (config := {maxSteps := 2000000, implicitDefEqProofs := false}) only [go_sem, ↓reduceIte, Nat.reduceEqDiff, Nat.reduceAdd, Nat.reduceMul, Nat.reduceLeDiff, Nat.reduceLT, Nat.reduceSub, IntWalk.iteOmega, IntWalk.toNatUp, reduceCtorEq, false_and, and_false, false_or, or_false, true_or, or_true, not_true_eq_false, not_false_eq_true, Bool.not_true, Bool.not_false, Bool.and_true, Bool.true_and, Bool.and_false, Bool.false_and, Bool.not_eq_true, beq_self_eq_true, Nat.add_zero, Int.reduceLE, Int.reduceLT, Int.reduceToNat, Int.reduceNeg, f2, f3, f4, f6, hlt', Int.toNat_natCast, Nat.zero_add, g1, g2, c1]
    refine ⟨⟨f2, f3, f4, i + 1, hlt, rfl, ?_⟩, ?_⟩
    · rw [hG, set_set, hnext]; rfl
    · simp only [vi, updo_some, ↓reduceIte, f6]; omega
  · have hge : ¬ (i : Int) < 16 := by omega
    obtain rfl : i = 16 := by omega
    have c16 : ((16 : Nat) : Int) = 16 := rfl
    rw [c16] at f6 hge
    have hz : (H.setIfInBounds ba (fldC (fpl (· + ·) xs ys 16)))[br]? = some (fldC (List.replicate 16 0)) := by rw [Array.getElem?_setIfInBounds, if_neg (by omega)]; exact H2
    have HB3 : Bel ba h (H.setIfInBounds ba (fldC (fpl (· + ·) xs ys 16))) := HB.addSet (by omega) _
    have hs : fplus xs ys = fpl (· + ·) xs ys 16 := rfl
    rw [hs]
    generalize H.setIfInBounds ba (fldC (fpl (· + ·) xs ys 16)) = G at *
    generalize fpl (· + ·) xs ys 16 = s at *
    have ls : s.length = 16 := by omega
    have r3 := rd_fld ls hx
    have lc : (s.map sv).length = 16 := by simpa using ls
    have w4 := wr_get (h := G) (b := br) (l := ((List.replicate 16 (0 : Int)).map sv)) hz 0 (s.map sv)
    have ho4 : (s.map sv).all oneC = true := by simp [sv, oneC]
    rw [if_pos ⟨by simp [lc], ho4⟩, lput_full (by simp [lc])] at w4
    have tc : (s.map sv).take 16 = s.map sv := List.take_of_length_le (by omega)
    have hlr := lt_of_get hz
    simp (config := {maxSteps := 2000000, implicitDefEqProofs := false}) only [go_sem, ↓reduceIte, Nat.reduceEqDiff, Nat.reduceAdd, Nat.reduceMul, Nat.reduceLeDiff, Nat.reduceLT, Nat.reduceSub, IntWalk.iteOmega, IntWalk.toNatUp, reduceCtorEq, false_and, and_false, false_or, or_false, true_or, or_true, not_true_eq_false, not_false_eq_true, Bool.not_true, Bool.not_false, Bool.and_true, Bool.true_and, Bool.and_false, Bool.false_and, Bool.not_eq_true, beq_self_eq_true, Nat.add_zero, Int.reduceLE, Int.reduceLT, Int.reduceToNat, Int.reduceNeg, f2, f3, f4, f6, hge, r3, w4, lc, tc, hlr]
    exact HB3.addSet (by omega) _
set_option maxHeartbeats 1000000 in
theorem fldMinus_ok (T : World) (h : Hp) (xs ys : List Int) (ha : xs.length = 16) (hb : ys.length = 16) (wa : InK 1073741824 xs) (wb : InK 1073741824 ys) :
    CallsH Try.prog T 41 #[.agg (xs.map sv).toArray, .agg (ys.map sv).toArray] h fun v' h' => v' = .agg ((fminus xs ys).map sv).toArray ∧ Bel h.size h h' := by
  have la : (xs.map sv).length = 16 := by simpa using ha
  have lb : (ys.map sv).length = 16 := by simpa using hb
  have ta : (xs.map sv).take 16 = xs.map sv := List.take_of_length_le (by omega)
  refine CallsH.of_code2 (args := [_, _]) Try.func41 rfl rfl rfl rfl ?_
  have z16 : (#[Value.int .i64 0, .int .i64 0, .int .i64 0, .int .i64 0, .int .i64 0, .int .i64 0, .int .i64 0, .int .i64 0, .int .i64 0, .int .i64 0, .int .i64 0, .int .i64 0, .int .i64 0, .int .i64 0, .int .i64 0, .int .i64 0] : Array Value) = ((List.replicate 16 (0 : Int)).map sv).toArray := rfl
  simp (config := {maxSteps := 2000000, implicitDefEqProofs := false}) only [go_sem, ↓reduceIte, Nat.reduceEqDiff, Nat.reduceAdd, Nat.reduceMul, Nat.reduceLeDiff, Nat.reduceLT, Nat.reduceSub, IntWalk.iteOmega, IntWalk.toNatUp, reduceCtorEq, false_and, and_false, false_or, or_false, true_or, or_true, not_true_eq_false, not_false_eq_true, Bool.not_true, Bool.not_false, Bool.and_true, Bool.true_and, Bool.and_false, Bool.false_and, Bool.not_eq_true, beq_self_eq_true, Nat.add_zero, Int.reduceLE, Int.reduceLT, Int.reduceToNat, Int.reduceNeg, la, lb, ta]
  rw [z16]
  obtain ⟨H, hH⟩ : ∃ H : Hp, H = (((h.push (fldC xs)).push (fldC ys)).push (fldC (List.replicate 16 0))) := ⟨_, rfl⟩
  have HB : Bel h.size h H := by rw [hH]; exact ((Bel.push (Nat.le_refl _) _).addP (by simp) _).addP (by simp; omega) _
  have Hs : H.size = h.size + 1 + 1 + 1 := by rw [hH]; simp
  have H0 : H[h.size]? = some (fldC xs) := by
    have := get_push_last (h := h) (o := fldC xs)
    rw [hH, get_push_ne (by simp; omega), get_push_ne (by simp), this]
  have H1 : H[h.size + 1]? = some (fldC ys) := by
    have := get_push_last (h := h.push (fldC xs)) (o := fldC ys)
    rw [Array.size_push] at this
    rw [hH, get_push_ne (by simp), this]
  have H2 : H[h.size + 1 + 1]? = some (fldC (List.replicate 16 0)) := by
    have := get_push_last (h := (h.push (fldC xs)).push (fldC ys)) (o := fldC (List.replicate 16 0))
    rw [Array.size_push, Array.size_push] at this
    rw [hH, this]
  have hfold : (((h.push (.cells (xs.map sv).toArray 65)).push (.cells (ys.map sv).toArray 65)).push (.cells ((List.replicate 16 (0 : Int)).map sv).toArray 65)) = H := by rw [hH]; rfl
  rw [hfold]
  clear hH hfold z16
  obtain ⟨br, hbr⟩ : ∃ b, b = h.size + 1 + 1 := ⟨_, rfl⟩
  obtain ⟨bb, hbb⟩ : ∃ b, b = h.size + 1 := ⟨_, rfl⟩
  obtain ⟨ba, hba⟩ : ∃ b, b = h.size := ⟨_, rfl⟩
  rw [← hbr] at H2 ⊢
  rw [← hbb] at H1 ⊢
  rw [← hba] at H0 HB ⊢
  refine VS.loop' (fun F g => F 2 = .pointer (some ⟨ba, 0, none⟩) ∧ F 3 = .pointer (some ⟨bb, 0, none⟩) ∧ F 4 = .pointer (some ⟨br, 0, none⟩) ∧ ∃ i : Nat, i ≤ 16 ∧ F 6 = .int .i64 i ∧ g = H.setIfInBounds ba (fldC (fpl (· - ·) xs ys i)))
    (fun F _ => 16 - (vi (F 6)).toNat) rfl ⟨rfl, rfl, rfl, 0, by omega, rfl, (set_same H0).symm⟩ ?_
  rintro F g ⟨f2, f3, f4, i, hi, f6, rfl⟩
  have hx := cells_new (o := fldC (fpl (· - ·) xs ys i)) H0
  have hy : (H.setIfInBounds ba (fldC (fpl (· - ·) xs ys i)))[bb]? = some (fldC ys) := by rw [Array.getElem?_setIfInBounds, if_neg (by omega)]; exact H1
  have lf := fpl_length (· - ·) xs ys i
  by_cases hlt : i < 16
  · have hlt' : (i : Int) < 16 := by omega
    have hnext : fpl (· - ·) xs ys (i + 1) = (fpl (· - ·) xs ys i).set i ((fpl (· - ·) xs ys i).getD i 0 - ys.getD i 0) := rfl
    have b1 := wa.getD (by omega) i
    have b2 := wb.getD (by omega) i
    have ex : (fpl (· - ·) xs ys i).getD i 0 = xs.getD i 0 := by rw [fpl_at, if_neg (by omega)]
    rw [ex] at hnext
    obtain ⟨a, haa⟩ : ∃ a, a = fpl (· - ·) xs ys i := ⟨_, rfl⟩
    rw [← haa] at hnext hx hy lf ex ⊢
    have g1 := icells_get hx (i := i) (by omega)
    have g2 := icells_get hy (i := i) (by omega)
    rw [ex] at g1
    clear ex haa
    obtain ⟨x, hxx⟩ : ∃ x, x = xs.getD i 0 := ⟨_, rfl⟩
    rw [← hxx] at g1 b1 hnext
    obtain ⟨y, hyy⟩ : ∃ y, y = ys.getD i 0 := ⟨_, rfl⟩
    rw [← hyy] at g2 b2 hnext
    obtain ⟨G, hG⟩ : ∃ G, G = H.setIfInBounds ba (fldC a) := ⟨_, rfl⟩
    rw [← hG] at hx hy g1 g2 ⊢
    have c1 : wr1 G ⟨ba, i, none⟩ (.int .i64 (x - y)) = _ := icells_set hx (i := i) (by omega) (x - y)
    clear hxx hyy
    simp (config := {maxSteps := 2000000, implicitDefEqProofs := false}) only [go_sem, ↓reduceIte, Nat.reduceEqDiff, Nat.reduceAdd, Nat.reduceMul, Nat.reduceLeDiff, Nat.reduceLT, Nat.reduceSub, IntWalk.iteOmega, IntWalk.toNatUp, reduceCtorEq, false_and, and_false, false_or, or_false, true_or, or_true, not_true_eq_false, not_false_eq_true, Bool.not_true, Bool.not_false, Bool.and_true, Bool.true_and, Bool.and_false, Bool.false_and, Bool.not_eq_true, beq_self_eq_true, Nat.add_zero, Int.reduceLE, Int.reduceLT, Int.reduceToNat, Int.reduceNeg, f2, f3, f4, f6, hlt', Int.toNat_natCast]
    refine VS.w (br) [8] (.q 0 (.q 1 (.q 2 (.q 3 (.q 4 (.q 5 (.q 6 (.q 7 (.w 8 .nil))))))))) mixed (by kernel_rfl) ?_
    simp (config := {maxSteps := 2000000, implicitDefEqProofs := false}) only [go_sem, ↓reduceIte, Nat.reduceEqDiff, Nat.reduceAdd, Nat.reduceMul, Nat.reduceLeDiff, Nat.reduceLT, Nat.reduceSub, IntWalk.iteOmega, IntWalk.toNatUp, reduceCtorEq, false_and, and_false, false_or, or_false, true_or, or_true, not_true_eq_false, not_false_eq_true, Bool.not_true, Bool.not_false, Bool.and_true, Bool.true_and, Bool.and_false, Bool.false_and, Bool.not_eq_true, beq_self_eq_true, Nat.add_zero, Int.reduceLE, Int.reduceLT, Int.reduceToNat, Int.reduceNeg, f2, f3, f4, f6, hlt', Int.toNat_natCast, Nat.zero_add, g1, g2, c1]
    refine ⟨⟨f2, f3, f4, i + 1, hlt, rfl, ?_⟩, ?_⟩
    · rw [hG, set_set, hnext]; rfl
    · simp only [vi, updo_some, ↓reduceIte, f6]; omega
  · have hge : ¬ (i : Int) < 16 := by omega
    obtain rfl : i = 16 := by omega
    have c16 : ((16 : Nat) : Int) = 16 := rfl
    rw [c16] at f6 hge
    have hz : (H.setIfInBounds ba (fldC (fpl (· - ·) xs ys 16)))[br]? = some (fldC (List.replicate 16 0)) := by rw [Array.getElem?_setIfInBounds, if_neg (by omega)]; exact H2
    have HB3 : Bel ba h (H.setIfInBounds ba (fldC (fpl (· - ·) xs ys 16))) := HB.addSet (by omega) _
    have hs : fminus xs ys = fpl (· - ·) xs ys 16 := rfl
    rw [hs]
    generalize H.setIfInBounds ba (fldC (fpl (· - ·) xs ys 16)) = G at *
    generalize fpl (· - ·) xs ys 16 = s at *
    have ls : s.length = 16 := by omega
    have r3 := rd_fld ls hx
    have lc : (s.map sv).length = 16 := by simpa using ls
    have w4 := wr_get (h := G) (b := br) (l := ((List.replicate 16 (0 : Int)).map sv)) hz 0 (s.map sv)
    have ho4 : (s.map sv).all oneC = true := by simp [sv, oneC]
    rw [if_pos ⟨by simp [lc], ho4⟩, lput_full (by simp [lc])] at w4
    have tc : (s.map sv).take 16 = s.map sv := List.take_of_length_le (by omega)
    have hlr := lt_of_get hz
    simp (config := {maxSteps := 2000000, implicitDefEqProofs := false}) only [go_sem, ↓reduceIte, Nat.reduceEqDiff, Nat.reduceAdd, Nat.reduceMul, Nat.reduceLeDiff, Nat.reduceLT, Nat.reduceSub, IntWalk.iteOmega, IntWalk.toNatUp, reduceCtorEq, false_and, and_false, false_or, or_false, true_or, or_true, not_true_eq_false, not_false_eq_true, Bool.not_true, Bool.not_false, Bool.and_true, Bool.true_and, Bool.and_false, Bool.false_and, Bool.not_eq_true, beq_self_eq_true, Nat.add_zero, Int.reduceLE, Int.reduceLT, Int.reduceToNat, Int.reduceNeg, f2, f3, f4, f6, hge, r3, w4, lc, tc, hlr]
    exact HB3.addSet (by omega) _
end Go.Proofs.Ytiakfdpmapmifaa
