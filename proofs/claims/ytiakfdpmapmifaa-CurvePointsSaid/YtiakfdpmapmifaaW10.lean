/- W10: what lies below stays: by rewriting. -/
import Derived.Test.YtiakfdpmapmifaaW9
namespace Go.V
section
variable {B : Nat} {h h' : Hp} {o : Obj} {b : Nat}
@[go_sem] theorem bel_reflT : Bel B h h = True := eq_true (Bel.refl _ _)
@[go_sem] theorem bel_addT (a : Bel h.size h h') : Bel h.size h (h'.push o) = True := eq_true (a.add _)
@[go_sem] theorem bel_setT (a : Bel B h h') (hb : B ≤ b) : Bel B h (h'.setIfInBounds b o) = True := eq_true (a.addSet hb _)
attribute [go_sem] Nat.le_add_right Nat.le_refl List.cons_append List.nil_append
@[go_sem] theorem zrep_one (z : List Value) : zrep 1 z = z := by simp [zrep]
@[go_sem] theorem zrep_two (z : List Value) : zrep 2 z = z ++ z := by simp [zrep]
end
theorem Ots.one {α : Type} {enc : α → List Value} {n B : Nat} {E : TypeId} {h : Hp} (x : α) (henc : ∀ x, (enc x).length = n) (hB : B ≤ h.size) : Ots B E enc n (h.push (.cells (enc x).toArray E)) (.slice (some ⟨h.size, 0, none⟩) 1 1) [x] := by
  have := Ots.made (h := h) (E := E) (B := B) henc [x] hB
  simpa [encs] using this
end Go.V
