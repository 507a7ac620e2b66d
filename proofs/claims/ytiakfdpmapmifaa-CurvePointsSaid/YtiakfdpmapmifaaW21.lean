/- W21: slices cut short and cut behind, of the call's own; what is put at a place of a list. -/
import Derived.Test.YtiakfdpmapmifaaW20
namespace Go.V
set_option linter.unusedVariables false
set_option linter.unusedSimpArgs false
section
variable {h h' : Hp}
theorem Own.fore {B : Nat} {E : TypeId} {n : Nat} {p : Option Addr} {k c : Nat} {cs : List Value} (s : Own B E n h (.slice p k c) k cs) {m : Nat} (hm : m ≤ k) : Own B E n h (.slice p m c) m (cs.take (m * n)) := by
  rcases s with ⟨⟨q, h1⟩, h2, h3⟩ | ⟨b, cap, spare, hB, h1, hg, hl, hs, hc⟩
  · simp only [Value.slice.injEq] at h1
    obtain ⟨rfl, rfl, rfl⟩ := h1
    have e : m = 0 := by omega
    subst e
    subst h3
    exact .inl ⟨⟨_, rfl⟩, rfl, by simp⟩
  · simp only [Value.slice.injEq] at h1
    obtain ⟨rfl, _, rfl⟩ := h1
    have hmn : m * n ≤ k * n := Nat.mul_le_mul_right _ hm
    have hcn : k * n ≤ c * n := Nat.mul_le_mul_right _ hc
    refine .inr ⟨b, c, cs.drop (m * n) ++ spare, hB, rfl, ?_, ?_, ?_, by omega⟩
    · rw [← List.append_assoc, List.take_append_drop]; exact hg
    · rw [List.length_take]; omega
    · rw [List.length_append, List.length_drop, hl, hs, Nat.sub_mul, Nat.sub_mul]; omega
theorem Own.spare {B : Nat} {E : TypeId} {n : Nat} {p : Option Addr} {k c : Nat} {cs : List Value} (s : Own B E n h (.slice p k c) k cs) (hk : c ≠ 0) : ∃ b spare, B ≤ b ∧ p = some ⟨b, 0, none⟩ ∧ h[b]? = some (.cells (cs ++ spare).toArray E) ∧ cs.length = k * n ∧ spare.length = (c - k) * n ∧ k ≤ c := by
  rcases s with ⟨⟨q, h1⟩, h2, h3⟩ | ⟨b, cap, spare, hB, h1, hg, hl, hs, hc⟩
  · simp only [Value.slice.injEq] at h1
    exact (hk h1.2.2).elim
  · simp only [Value.slice.injEq] at h1
    obtain ⟨rfl, _, rfl⟩ := h1
    exact ⟨b, spare, hB, rfl, hg, hl, hs, hc⟩
theorem get_set {b : Nat} {o o' : Obj} (hb : h[b]? = some o') : (h.setIfInBounds b o)[b]? = some o := by
  rw [Array.getElem?_setIfInBounds, if_pos rfl, if_pos (lt_of_get hb)]
theorem get_set_ne {b b' : Nat} {o : Obj} (hb : b ≠ b') : (h.setIfInBounds b o)[b']? = h[b']? := by
  rw [Array.getElem?_setIfInBounds, if_neg hb]
variable {P : Program} {T : World} {K : Value → Hp → Prop} {ty : TypeId}
@[go_sem] theorem vBi_cap {cs : Array Bool} {t : TypeId} {p : Option Addr} {l c : Nat} (ht : (tsl P t).isSome = true) : vBi P T .cap #[t] ty cs [.slice p l c] K h = K (.int .i64 c) h := by
  unfold tsl at ht
  split at ht
  · rename_i e hu
    show hw P (do pure (.value (← Builtin.cap_ #[t] ty #[.slice p l c]))) (vNext P T K) h = _
    rw [hw_bind]
    show hw P (do
      match ← underlying t, (Value.slice p l c) with
      | .array n _, _ => pure (goInt n)
      | .pointer arr, _ =>
        let .array n _ ← underlying arr | stuck "cap: pointer to array expected"
        pure (goInt n)
      | .slice _, .slice _ _ n => pure (goInt n)
      | .chan _ _, .chan none => pure (goInt 0)
      | .chan _ _, .chan (some r) =>
        let .chan n _ _ _ _ timer ← getObj r | stuck "cap: channel expected"
        pure (goInt (if timer then 0 else n))
      | _, _ => stuck "cap: array, pointer to array, slice or channel expected") K h = _
    rw [hw_bind, run_under hu]; rfl
  · cases ht
end
end Go.V
