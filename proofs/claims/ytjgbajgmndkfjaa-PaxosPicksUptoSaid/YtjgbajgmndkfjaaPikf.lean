/- Slices of slices of votes: copied by the law; and what fits them where the bulk is bounded; no condition but those in the statements. -/
import Derived.Test.YtjgbajgmndkfjaaPikr
namespace Go.Proofs.Ytjgbajgmndkfjaa
open Go Go.V
open Go.ChangeShapes Go.WideShapes Go.ChangeAt Go.RowKit
set_option linter.unusedSimpArgs false
set_option linter.unusedVariables false
set_option maxRecDepth 100000
theorem bulk_one {H : Type} (d : DataW H) : 1 ≤ Rows.uptoBulk d := by
  cases d with
  | lit l => cases l <;> simp [Rows.uptoBulk]
  | nil => simp [Rows.uptoBulk]
  | ptr d => simp [Rows.uptoBulk]
  | slice elems spare => simp [Rows.uptoBulk]
  | agg parts => simp [Rows.uptoBulk]
  | iface t d => simp [Rows.uptoBulk]
  | map entries => simp [Rows.uptoBulk]
  | held h => simp [Rows.uptoBulk]
theorem bulk_len {H : Type} (l : List (DataW H)) : l.length ≤ Rows.uptoBulkAll l := by
  induction l with
  | nil => simp [Rows.uptoBulkAll]
  | cons x r ih => have := bulk_one x; simp only [Rows.uptoBulkAll, List.length_cons]; omega
theorem bulk_flat {H : Type} : ∀ (LL : List (List Vt)) (l : List (DataW H)), LL.length = l.length → (∀ i (hi : i < LL.length) (hi' : i < l.length), LL[i].length ≤ Rows.uptoBulk l[i]) → LL.flatten.length ≤ Rows.uptoBulkAll l
  | [], [], _, _ => by simp [Rows.uptoBulkAll]
  | L :: LL, d :: l, h, hb => by
    have h0 := hb 0 (by simp) (by simp)
    have h1 := bulk_flat LL l (by simpa using h) (fun i hi hi' => by have := hb (i + 1) (by simpa using hi) (by simpa using hi'); simpa using this)
    simp only [List.flatten_cons, List.length_append, Rows.uptoBulkAll]
    simp only [List.getElem_cons_zero] at h0
    omega
theorem choose_list {α : Type} {Q : Nat → α → Prop} : ∀ n, (∀ i, i < n → ∃ x, Q i x) → ∃ l : List α, l.length = n ∧ ∀ i (hi : i < l.length), Q i l[i]
  | 0, _ => ⟨[], rfl, fun i hi => by simp at hi⟩
  | n + 1, h => by
    obtain ⟨l, h1, h2⟩ := choose_list n (fun i hi => h i (by omega))
    obtain ⟨x, hx⟩ := h n (by omega)
    refine ⟨l ++ [x], by simp [h1], fun i hi => ?_⟩
    by_cases e : i < l.length
    · rw [List.getElem_append_left e]; exact h2 i e
    · have : i = n := by simp at hi; omega
      subst this
      rw [List.getElem_append_right (by omega)]
      simpa [h1] using hx
theorem vss_fit {H : Type} {enc : TypeId × Value → H} {W : World} {k : Nat} {v : Value} {d : DataW H} {ps : List MemPlace}
    (h : DataW.trod enc Try.prog W 0 (fun _ => true) true k 83 [v] = some (d, ps)) (hw : (d.weights Try.prog 83).all (· ≤ reachBytes) = true) :
    ∃ LL, Vss W.heap v LL ∧ LL.length ≤ Rows.uptoBulk d ∧ LL.flatten.length ≤ Rows.uptoBulk d := by
  have hc1 : Try.prog.cellsOf 77 = 1 := by kernel_rfl
  rcases DataW.trod_slice Try.underlying83 h with ⟨hcs, _⟩ | ⟨a, len, cap, elems, rest, n, rfl, hcs, hx, _, hlc, _, hel, hget, _, _⟩
  · simp only [List.cons.injEq, and_true] at hcs
    subst hcs
    exact ⟨[], ⟨none, 0, rfl, fun hne => (hne rfl).elim⟩, by simp, by simp⟩
  · simp only [List.cons.injEq, and_true] at hcs
    subst hcs
    simp only [Prod.mk.injEq] at hx
    obtain ⟨rfl, _⟩ := hx
    have hwu : ∀ (i : Nat) (x : DataW H × List MemPlace), elems[i]? = some x → (x.1.weights Try.prog 77).all (· ≤ reachBytes) = true := by
      intro i x hx
      simp only [DataW.weights, Try.underlying83, List.all_cons, List.all_append, Bool.and_eq_true] at hw
      exact weightsAll_get _ hw.2.1 i x.1 (by rw [List.getElem?_map, hx]; rfl)
    have key : ∀ i, i < len → ∃ L : List Vt, ∃ w, W.cell? (a.add i) = some w ∧ Ts voteC 8 W.heap w L ∧ L.length ≤ 2199023255552 ∧ ∀ x, elems[i]? = some x → L.length ≤ Rows.uptoBulk x.1 := by
      intro i hi
      have hg := hget i hi
      rw [hc1, Nat.mul_one] at hg
      have hx : elems[i]? = some elems[i] := List.getElem?_eq_getElem (by omega)
      rw [hx] at hg
      cases hcell : W.cells? 0 (a.add i) 1 with
      | none => rw [hcell] at hg; cases hg
      | some ds =>
        rw [hcell] at hg
        have hg : DataW.trod enc Try.prog W 0 (fun _ => true) true n 77 ds = some elems[i] := hg
        obtain ⟨q1, q2⟩ := cells_some hcell
        obtain ⟨w, rfl⟩ : ∃ w, ds = [w] := by
          match ds, q1 with
          | [w], _ => exact ⟨w, rfl⟩
        have hwc := q2 0 (by simp)
        have ea : (a.add i).add 0 = a.add i := by
          generalize a.add i = x
          simp [Addr.add]
        rw [ea] at hwc
        have hf := fit_of_trod n _ _ elems[i].1 elems[i].2 hg (hwu i _ hx)
        obtain ⟨L, t1, t2⟩ := fit_votes hf
        refine ⟨L, w, hwc, t1, t2, fun x hx' => ?_⟩
        rw [hx] at hx'
        obtain rfl := Option.some.inj hx'
        obtain ⟨pL, cL, e1, _⟩ := votes_open t1
        rcases DataW.trod_slice Try.underlying77 hg with ⟨hc2, _⟩ | ⟨a2, len2, cap2, elems2, rest2, n2, _, hc2, hx2, _, _, _, hel2, _, _, _⟩
        · simp only [List.cons.injEq, and_true] at hc2
          rw [hc2] at e1
          simp only [Value.slice.injEq] at e1
          omega
        · simp only [List.cons.injEq, and_true] at hc2
          rw [hc2] at e1
          simp only [Value.slice.injEq] at e1
          have e3 : elems[i].1 = .slice (elems2.map (·.1)) (rest2.map (·.1)) := by rw [hx2]
          rw [e3]
          have := bulk_len (elems2.map (·.1))
          rw [List.length_map] at this
          simp only [Rows.uptoBulk]
          omega
    obtain ⟨LL, hl, hQ⟩ := choose_list (Q := fun i (L : List Vt) => ∃ w, W.cell? (a.add i) = some w ∧ Ts voteC 8 W.heap w L ∧ L.length ≤ 2199023255552 ∧ ∀ x, elems[i]? = some x → L.length ≤ Rows.uptoBulk x.1) len key
    have hbl : LL.length ≤ Rows.uptoBulkAll (elems.map (·.1)) := by
      have := bulk_len (elems.map (·.1))
      rw [List.length_map] at this; omega
    have hbf := bulk_flat LL (elems.map (·.1)) (by rw [List.length_map]; omega) (fun i hi hi' => by
      obtain ⟨w, _, _, _, h4⟩ := hQ i hi
      rw [List.getElem_map]
      exact h4 _ (List.getElem?_eq_getElem (by omega)))
    refine ⟨LL, ⟨some a, cap, by rw [hl], fun hne => ?_⟩, ?_, ?_⟩
    · have hpos : 0 < LL.length := List.length_pos_iff.2 hne
      obtain ⟨w0, hw0, _⟩ := hQ 0 hpos
      have e0 : a.add 0 = a := by simp [Addr.add]
      rw [e0] at hw0
      have hsp : a.spot = none := spot_none hw0 rfl
      have hlt : a.block < W.heap.size := lt_of_hc (h := W.heap) (p := a) (v := w0) hw0
      refine ⟨a.block, a.off, ?_, hlt, fun i hi => ?_⟩
      · obtain ⟨b, o, s⟩ := a; simp only at hsp; subst hsp; rfl
      · obtain ⟨w, h1, h2, h3, _⟩ := hQ i hi
        refine ⟨w, ?_, h2, h3⟩
        have := h1
        rw [addr_add' a _ hsp] at this
        exact this
    · simp only [Rows.uptoBulk]; omega
    · simp only [Rows.uptoBulk]; omega
end Go.Proofs.Ytjgbajgmndkfjaa
