/- The vote of the greatest ballot: the first of them, either way; no condition but those in the statements. -/
import Derived.Test.YtjgbajgmndkfjaaPik
namespace Go.Proofs.Ytjgbajgmndkfjaa
open Go Go.V
set_option linter.unusedSimpArgs false
set_option linter.unusedVariables false
set_option maxRecDepth 100000
def sameB (a b : Bal) : Prop := a.r = b.r ∧ a.n = b.n
instance (a b : Bal) : Decidable (sameB a b) := by unfold sameB; infer_instance
def ofSlot (slot : Int) (l : List Vt) : List Vt := l.filter fun v => decide (v.slot = slot)
def vAt (l : List Vt) (i : Nat) : Vt := l.getD i vt0
/-- No ballot is above that of vote i, and none ahead of it is the same, as far as k. -/
def firstOk (l : List Vt) (i k : Nat) : Bool := (List.range k).all fun j => !(decide (below (vAt l i).b (vAt l j).b) || (decide (j < i) && decide (sameB (vAt l j).b (vAt l i).b)))
theorem firstOk_succ (l : List Vt) (i k : Nat) : firstOk l i (k + 1) = (firstOk l i k && !(decide (below (vAt l i).b (vAt l k).b) || (decide (k < i) && decide (sameB (vAt l k).b (vAt l i).b)))) := by
  simp [firstOk, List.range_succ]
theorem vAt_get {l : List Vt} {i : Nat} (hi : i < l.length) : vAt l i = l[i] := by unfold vAt; rw [List.getD_eq_getElem?_getD, List.getElem?_eq_getElem hi]; rfl
theorem bestOf_filter (slot : Int) (l : List Vt) : bestOf slot l = (ofSlot slot l).foldl (fun best v => if below best.b v.b then v else best) vt0 := by
  unfold bestOf
  generalize vt0 = z
  induction l generalizing z with
  | nil => rfl
  | cons v l ih =>
    simp only [List.foldl_cons, ofSlot, List.filter_cons]
    by_cases h : v.slot = slot
    · simp only [h, decide_true, if_true, List.foldl_cons]
      rw [ih]
      unfold pickB ofSlot
      congr 1
      simp [h]
    · simp only [h, decide_false, Bool.false_eq_true, if_false]
      rw [ih]
      unfold pickB ofSlot
      congr 1
      rw [if_neg (fun e => h e.1)]
theorem below_total (a b : Bal) : below a b ∨ below b a ∨ sameB a b := by unfold below sameB; omega
theorem below_trans {a b c : Bal} (h1 : below a b) (h2 : ¬ below c b) : below a c := by unfold below at *; omega
def bst (l : List Vt) : Vt := l.foldl (fun best v => if below best.b v.b then v else best) vt0
theorem bst_snoc (l : List Vt) (v : Vt) : bst (l ++ [v]) = if below (bst l).b v.b then v else bst l := by
  unfold bst; rw [List.foldl_append]; rfl
/-- What the fold has found. -/
theorem bst_inv {l : List Vt} (hr : ∀ i, i < l.length → 1 ≤ (vAt l i).b.r) : ∀ n, n ≤ l.length → (n = 0 ∧ bst (l.take n) = vt0) ∨ ∃ m, m < n ∧ bst (l.take n) = vAt l m ∧ (∀ k, k < n → ¬ below (vAt l m).b (vAt l k).b) ∧ ∀ k, k < m → below (vAt l k).b (vAt l m).b
  | 0, _ => .inl ⟨rfl, rfl⟩
  | n + 1, hn => by
    have ih := bst_inv hr n (by omega)
    have hs : bst (l.take (n + 1)) = if below (bst (l.take n)).b (vAt l n).b then vAt l n else bst (l.take n) := by
      rw [take_snoc l n (by omega), bst_snoc, ← vAt_get (by omega)]
    right
    rcases ih with ⟨h0, hb⟩ | ⟨m, hm, hb, h1, h2⟩
    · subst h0
      rw [hb] at hs
      have : below vt0.b (vAt l 0).b := by
        have := hr 0 (by omega)
        exact .inl (by show (0 : Int) < _; omega)
      rw [if_pos this] at hs
      refine ⟨0, by omega, hs, fun k hk => ?_, fun k hk => by omega⟩
      have : k = 0 := by omega
      subst this
      unfold below; omega
    · rw [hb] at hs
      by_cases hlt : below (vAt l m).b (vAt l n).b
      · rw [if_pos hlt] at hs
        refine ⟨n, by omega, hs, fun k hk => ?_, fun k hk => ?_⟩
        · by_cases e : k = n
          · subst e; unfold below; omega
          · have := h1 k (by omega)
            unfold below at *; omega
        · have := h1 k (by omega)
          unfold below at *; omega
      · rw [if_neg hlt] at hs
        refine ⟨m, by omega, hs, fun k hk => ?_, h2⟩
        by_cases e : k = n
        · subst e; exact hlt
        · exact h1 k (by omega)
theorem firstOk_true {l : List Vt} {i : Nat} (h : ∀ j, j < l.length → ¬ below (vAt l i).b (vAt l j).b) (h2 : ∀ j, j < i → below (vAt l j).b (vAt l i).b) : firstOk l i l.length = true := by
  unfold firstOk
  rw [List.all_eq_true]
  intro j hj
  have hj' : j < l.length := List.mem_range.1 hj
  have h1 := h j hj'
  rw [decide_eq_false h1, Bool.false_or]
  by_cases e : j < i
  · have h3 := h2 j e
    have : ¬ sameB (vAt l j).b (vAt l i).b := by unfold sameB below at *; omega
    rw [decide_eq_false this]; simp
  · rw [decide_eq_false e]; rfl
theorem firstOk_false {l : List Vt} {i j : Nat} (hj : j < l.length) (h : below (vAt l i).b (vAt l j).b) : firstOk l i l.length = false := by
  unfold firstOk
  rw [List.all_eq_false]
  exact ⟨j, List.mem_range.2 hj, by rw [decide_eq_true h]; simp⟩
/-- What the document's search finds. -/
theorem search_law {l : List Vt} (hr : ∀ i, i < l.length → 1 ≤ (vAt l i).b.r) : (l = [] ∧ bst l = vt0) ∨ ∃ m, m < l.length ∧ bst l = vAt l m ∧ firstOk l m l.length = true ∧ ∀ i, i < m → firstOk l i l.length = false := by
  have h := bst_inv hr l.length (Nat.le_refl _)
  rw [List.take_length] at h
  rcases h with ⟨h0, hb⟩ | ⟨m, hm, hb, h1, h2⟩
  · exact .inl ⟨List.eq_nil_of_length_eq_zero h0, hb⟩
  · exact .inr ⟨m, hm, hb, firstOk_true h1 h2, fun i hi => firstOk_false hm (h2 i hi)⟩
end Go.Proofs.Ytjgbajgmndkfjaa
