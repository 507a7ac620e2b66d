/- W12: append, and where its result lies. -/
import Derived.Test.YtiakfdpmapmifaaW11
namespace Go.V
set_option linter.unusedVariables false
set_option linter.unusedSimpArgs false
section
variable {P : Program} {T : World} {K : Value → Hp → Prop} {F : Env} {h : Hp} {ty : TypeId}
theorem Own.lt {B : Nat} {E : TypeId} {n : Nat} {h : Hp} {v : Value} {m : Nat} {cs : List Value} (s : Own B E n h v m cs) : ∀ b, blkOf v = some b → b < h.size := by
  intro b hb
  rcases s with ⟨⟨p, rfl⟩, _, _⟩ | ⟨b', cap, spare, _, rfl, hx, _⟩
  · cases p <;> simp [blkOf] at hb
  · simp only [blkOf] at hb
    split at hb
    · cases hb
    · rw [← Option.some.inj hb]; exact lt_of_get hx
theorem OBs.but {B : Nat} {E : TypeId} {h h' : Hp} {v : Value} {l : List Nat} (s : OBs B E h v l) {x : Option Nat} (a : But x h h') (hx : ∀ b, blkOf v = some b → x ≠ some b) : OBs B E h' v l := ⟨s.own.but a hx, s.byte⟩
end
end Go.V
