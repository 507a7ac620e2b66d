/- W10: what lies below stays: by rewriting. -/
import Derived.Test.YtnpacofabdgcdaaDoorW9
namespace Go.V
section
variable {B : Nat} {h h' : Hp} {o : Obj} {b : Nat}
@[go_sem] theorem bel_reflT : Bel B h h = True := eq_true (Bel.refl _ _)
@[go_sem] theorem bel_addT (a : Bel h.size h h') : Bel h.size h (h'.push o) = True := eq_true (a.add _)
@[go_sem] theorem bel_setT (a : Bel B h h') (hb : B ≤ b) : Bel B h (h'.setIfInBounds b o) = True := eq_true (a.addSet hb _)
attribute [go_sem] Nat.le_add_right Nat.le_refl List.cons_append List.nil_append
@[go_sem] theorem zrep_one (z : List Value) : zrep 1 z = z := by simp [zrep]
@[go_sem] theorem zrep_two (z : List Value) : zrep 2 z = z ++ z := by simp [zrep]
end
theorem Ots.openB {α : Type} {enc : α → List Value} {n B : Nat} {E : TypeId} {h : Hp} {v : Value} {l : List α} (henc : ∀ x, (enc x).length = n) (hn : n ≠ 0) (s : Ots B E enc n h v l) :
    ∃ p cap, v = .slice p l.length cap ∧ (l ≠ [] → ∃ b o, p = some ⟨b, o, none⟩ ∧ B ≤ b ∧ b < h.size ∧ ∀ i (hi : i < l.length), cellsAt h b (o + i * n) (enc l[i])) := by
  obtain ⟨p, cap, hv, hcs⟩ := s.ts.open henc hn
  refine ⟨p, cap, hv, fun hne => ?_⟩
  obtain ⟨b, o, hp, hb, hc⟩ := hcs hne
  refine ⟨b, o, hp, ?_, hb, hc⟩
  rcases s.own with ⟨_, h0, _⟩ | ⟨b', cap', spare, hB, hv', _⟩
  · exact absurd (List.eq_nil_of_length_eq_zero h0) hne
  · rw [hv, hp] at hv'
    simp only [Value.slice.injEq, Option.some.injEq, Addr.mk.injEq] at hv'
    obtain ⟨⟨rfl, _⟩, _⟩ := hv'
    exact hB
theorem Ots.one {α : Type} {enc : α → List Value} {n B : Nat} {E : TypeId} {h : Hp} (x : α) (henc : ∀ x, (enc x).length = n) (hB : B ≤ h.size) : Ots B E enc n (h.push (.cells (enc x).toArray E)) (.slice (some ⟨h.size, 0, none⟩) 1 1) [x] := by
  have := Ots.made (h := h) (E := E) (B := B) henc [x] hB
  simpa [encs] using this
end Go.V
