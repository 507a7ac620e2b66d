/- A vote, laid among votes that stand by slots: the plain law; no condition but those in the statements. -/
import Derived.Test.YtiakfdpmapmifaaPaxp
namespace Go.Proofs.Ytiakfdpmapmifaa
open Go Go.V
set_option linter.unusedSimpArgs false
set_option linter.unusedVariables false
set_option maxRecDepth 100000
/-- Votes by slots, none twice. -/
def Srt (l : List Vt) : Prop := ∀ i j (hi : i < l.length) (hj : j < l.length), i < j → l[i].slot < l[j].slot
theorem accErr_parts {p : Bal} {l : List Vt} (h : accErr p l = 0) : ∀ j, j < l.length → good p l j = true := by
  intro j hj
  unfold accErr at h
  split at h
  · cases h
  · split at h
    · rename_i hall
      exact List.all_eq_true.1 hall j (List.mem_range.2 hj)
    · cases h
theorem accErr_srt {p : Bal} {l : List Vt} (h : accErr p l = 0) : Srt l := by
  have hg := accErr_parts h
  intro i j
  induction j with
  | zero => intro _ _ h; omega
  | succ j ih =>
    intro hi hj hij
    have h1 := (good_iff hj).1 (hg _ hj)
    have h2 : slotAt l j < l[j + 1].slot := by
      rcases h1.2.2 with h | h
      · omega
      · simpa using h
    rw [slotAt_of (by omega)] at h2
    by_cases e : i = j
    · subst e; exact h2
    · exact Int.lt_trans (ih hi (by omega) (by omega)) h2
theorem accErr_may {p : Bal} {l : List Vt} (h : accErr p l = 0) : ∀ x ∈ l, voteMay x := by
  intro x hx
  obtain ⟨j, hj, rfl⟩ := List.mem_iff_getElem.1 hx
  exact ((good_iff hj).1 (accErr_parts h j hj)).1
/-- The votes, with one more. -/
def insV (l : List Vt) (v : Vt) : List Vt := l.filter (fun x => decide (x.slot < v.slot)) ++ v :: l.filter (fun x => decide (v.slot < x.slot))
theorem filter_take {α : Type} (q : α → Bool) (l : List α) (i : Nat) (h1 : ∀ j (hj : j < l.length), j < i → q l[j] = true) (h2 : ∀ j (hj : j < l.length), i ≤ j → q l[j] = false) : l.filter q = l.take i := by
  conv => lhs; rw [← List.take_append_drop i l]
  rw [List.filter_append, List.filter_eq_self.2, List.filter_eq_nil_iff.2, List.append_nil]
  · intro x hx
    obtain ⟨j, hj, rfl⟩ := List.mem_iff_getElem.1 hx
    rw [List.getElem_drop]
    rw [h2 _ (by rw [List.length_drop] at hj; omega) (by omega)]
    decide
  · intro x hx
    obtain ⟨j, hj, rfl⟩ := List.mem_iff_getElem.1 hx
    rw [List.length_take] at hj
    rw [List.getElem_take]
    exact h1 _ (by omega) (by omega)
theorem filter_drop {α : Type} (q : α → Bool) (l : List α) (i : Nat) (h1 : ∀ j (hj : j < l.length), j < i → q l[j] = false) (h2 : ∀ j (hj : j < l.length), i ≤ j → q l[j] = true) : l.filter q = l.drop i := by
  conv => lhs; rw [← List.take_append_drop i l]
  rw [List.filter_append, List.filter_eq_nil_iff.2, List.filter_eq_self.2, List.nil_append]
  · intro x hx
    obtain ⟨j, hj, rfl⟩ := List.mem_iff_getElem.1 hx
    rw [List.getElem_drop]
    exact h2 _ (by rw [List.length_drop] at hj; omega) (by omega)
  · intro x hx
    obtain ⟨j, hj, rfl⟩ := List.mem_iff_getElem.1 hx
    rw [List.length_take] at hj
    rw [List.getElem_take, h1 _ (by omega) (by omega)]
    decide
/-- Where a vote's place was found, and it was taken. -/
theorem insV_old {l : List Vt} (hs : Srt l) {v : Vt} {i : Nat} (hi : i < l.length) (he : l[i].slot = v.slot) : insV l v = l.set i v := by
  have a1 : l.filter (fun x => decide (x.slot < v.slot)) = l.take i := filter_take _ _ _
    (fun j hj hji => decide_eq_true (by have := hs j i hj hi hji; omega))
    (fun j hj hij => decide_eq_false (by
      by_cases e : i = j
      · subst e; omega
      · have := hs i j hi hj (by omega); omega))
  have a2 : l.filter (fun x => decide (v.slot < x.slot)) = l.drop (i + 1) := filter_drop _ _ _
    (fun j hj hji => decide_eq_false (by
      by_cases e : j = i
      · subst e; omega
      · have := hs j i hj hi (by omega); omega))
    (fun j hj hij => decide_eq_true (by have := hs i j hi hj (by omega); omega))
  rw [insV, a1, a2, List.set_eq_take_append_cons_drop, if_pos hi]
/-- Where it was not. -/
theorem insV_new {l : List Vt} (hs : Srt l) {v : Vt} {i : Nat} (hi : i ≤ l.length) (h1 : ∀ j (hj : j < l.length), j < i → l[j].slot < v.slot) (h2 : ∀ j (hj : j < l.length), i ≤ j → v.slot < l[j].slot) : insV l v = l.take i ++ v :: l.drop i := by
  have a1 : l.filter (fun x => decide (x.slot < v.slot)) = l.take i := filter_take _ _ _ (fun j hj hji => decide_eq_true (h1 j hj hji)) (fun j hj hij => decide_eq_false (by have := h2 j hj hij; omega))
  have a2 : l.filter (fun x => decide (v.slot < x.slot)) = l.drop i := filter_drop _ _ _ (fun j hj hji => decide_eq_false (by have := h1 j hj hji; omega)) (fun j hj hij => decide_eq_true (h2 j hj hij))
  rw [insV, a1, a2]
/-- The document's way: slot by slot. -/
def insR (l : List Vt) (v : Vt) : Nat → List Vt
  | 0 => []
  | s + 1 => insR l v s ++ (if (s : Int) = v.slot then [v] else l.filter (fun x => decide (x.slot = s)))
theorem filter_next {l : List Vt} (hs : Srt l) (s : Int) : l.filter (fun x => decide (x.slot < s + 1)) = l.filter (fun x => decide (x.slot < s)) ++ l.filter (fun x => decide (x.slot = s)) := by
  induction l with
  | nil => rfl
  | cons x l ih =>
    have hs' : Srt l := fun i j hi hj hij => by
      have := hs (i + 1) (j + 1) (by simpa using hi) (by simpa using hj) (by omega)
      simpa using this
    have hx : ∀ y ∈ l, x.slot < y.slot := fun y hy => by
      obtain ⟨j, hj, rfl⟩ := List.mem_iff_getElem.1 hy
      have := hs 0 (j + 1) (by simp) (by simpa using hj) (by omega)
      simpa using this
    have ih := ih hs'
    by_cases h1 : x.slot < s
    · have h2 : x.slot < s + 1 := by omega
      have h3 : ¬ x.slot = s := by omega
      rw [List.filter_cons_of_pos (by simpa using h2), List.filter_cons_of_pos (by simpa using h1), List.filter_cons_of_neg (by simpa using h3), ih, List.cons_append]
    · have n1 : l.filter (fun x => decide (x.slot < s)) = [] := List.filter_eq_nil_iff.2 (fun y hy => by have := hx y hy; simp; omega)
      by_cases h3 : x.slot = s
      · have n2 : l.filter (fun x => decide (x.slot = s)) = [] := List.filter_eq_nil_iff.2 (fun y hy => by have := hx y hy; simp; omega)
        rw [n1, n2, List.append_nil] at ih
        rw [List.filter_cons_of_pos (by simpa using (by omega : x.slot < s + 1)), List.filter_cons_of_neg (by simpa using h1), List.filter_cons_of_pos (by simpa using h3), ih, n1, n2]
        rfl
      · rw [List.filter_cons_of_neg (by simpa using (by omega : ¬ x.slot < s + 1)), List.filter_cons_of_neg (by simpa using h1), List.filter_cons_of_neg (by simpa using h3), ih]
theorem insR_eq {l : List Vt} (hs : Srt l) (v : Vt) (h0 : 0 ≤ v.slot) (hl : ∀ x ∈ l, 0 ≤ x.slot) : ∀ s : Nat, insR l v s = l.filter (fun x => decide (x.slot < v.slot ∧ x.slot < (s : Int))) ++ ((if v.slot < (s : Int) then [v] else []) ++ l.filter (fun x => decide (v.slot < x.slot ∧ x.slot < (s : Int)))) := by
  intro s
  induction s with
  | zero =>
    have n1 : l.filter (fun x => decide (x.slot < v.slot ∧ x.slot < ((0 : Nat) : Int))) = [] := List.filter_eq_nil_iff.2 (fun y hy => by have := hl y hy; simp; omega)
    have n2 : l.filter (fun x => decide (v.slot < x.slot ∧ x.slot < ((0 : Nat) : Int))) = [] := List.filter_eq_nil_iff.2 (fun y hy => by have := hl y hy; simp; omega)
    rw [n1, n2, if_neg (by omega)]
    rfl
  | succ s ih =>
    rw [insR, ih]
    have hn := filter_next hs (s : Int)
    have hc : ∀ (q : Vt → Bool), l.filter (fun x => q x && decide (x.slot < (s : Int) + 1)) = l.filter (fun x => q x && decide (x.slot < (s : Int))) ++ l.filter (fun x => q x && decide (x.slot = (s : Int))) := by
      intro q
      have := congrArg (List.filter q) hn
      rw [List.filter_append, List.filter_filter, List.filter_filter, List.filter_filter] at this
      exact this
    have c1 := hc (fun x => decide (x.slot < v.slot))
    have c2 := hc (fun x => decide (v.slot < x.slot))
    simp only [← Bool.decide_and] at c1 c2
    have es : ((s + 1 : Nat) : Int) = (s : Int) + 1 := by omega
    rw [es, c1, c2]
    by_cases e1 : (s : Int) = v.slot
    · have z1 : l.filter (fun x => decide (x.slot < v.slot ∧ x.slot = (s : Int))) = [] := List.filter_eq_nil_iff.2 (fun y hy => by simp; omega)
      have z2 : l.filter (fun x => decide (v.slot < x.slot ∧ x.slot < (s : Int))) = [] := List.filter_eq_nil_iff.2 (fun y hy => by simp; omega)
      have z3 : l.filter (fun x => decide (v.slot < x.slot ∧ x.slot = (s : Int))) = [] := List.filter_eq_nil_iff.2 (fun y hy => by simp; omega)
      rw [if_pos e1, if_neg (by omega), if_pos (by omega), z1, z2, z3]
      simp
    · rw [if_neg e1]
      by_cases e2 : v.slot < (s : Int)
      · have z1 : l.filter (fun x => decide (x.slot < v.slot ∧ x.slot = (s : Int))) = [] := List.filter_eq_nil_iff.2 (fun y hy => by simp; omega)
        have z3 : l.filter (fun x => decide (v.slot < x.slot ∧ x.slot = (s : Int))) = l.filter (fun x => decide (x.slot = (s : Int))) := List.filter_congr (fun y hy => by simp; omega)
        rw [if_pos e2, if_pos (by omega), z1, z3]
        simp [List.append_assoc]
      · have z1 : l.filter (fun x => decide (x.slot < v.slot ∧ x.slot = (s : Int))) = l.filter (fun x => decide (x.slot = (s : Int))) := List.filter_congr (fun y hy => by simp; omega)
        have z2 : l.filter (fun x => decide (v.slot < x.slot ∧ x.slot < (s : Int))) = [] := List.filter_eq_nil_iff.2 (fun y hy => by simp; omega)
        have z3 : l.filter (fun x => decide (v.slot < x.slot ∧ x.slot = (s : Int))) = [] := List.filter_eq_nil_iff.2 (fun y hy => by simp; omega)
        rw [if_neg e2, if_neg (by omega), z1, z2, z3]
        simp
theorem insR_done {l : List Vt} (hs : Srt l) {v : Vt} (hv : voteMay v) (hl : ∀ x ∈ l, voteMay x) : insR l v 40 = insV l v := by
  rw [insR_eq hs v hv.1.1 (fun x hx => (hl x hx).1.1)]
  unfold insV
  have b := hv.1
  rw [if_pos (by omega)]
  have e1 : l.filter (fun x => decide (x.slot < v.slot ∧ x.slot < ((40 : Nat) : Int))) = l.filter (fun x => decide (x.slot < v.slot)) := List.filter_congr (fun y hy => by have := (hl y hy).1; simp; omega)
  have e2 : l.filter (fun x => decide (v.slot < x.slot ∧ x.slot < ((40 : Nat) : Int))) = l.filter (fun x => decide (v.slot < x.slot)) := List.filter_congr (fun y hy => by have := (hl y hy).1; simp; omega)
  rw [e1, e2]
  rfl
end Go.Proofs.Ytiakfdpmapmifaa
