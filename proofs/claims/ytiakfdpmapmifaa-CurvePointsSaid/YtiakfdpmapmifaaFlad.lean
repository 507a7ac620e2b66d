/- The ladder on whole numbers modulo 2^255 - 19, which both sides compute; no condition but those in the statements. -/
import Derived.Test.YtiakfdpmapmifaaFldz
namespace Go.Proofs.Ytiakfdpmapmifaa
open Go Go.V
set_option linter.unusedSimpArgs false
set_option linter.unusedVariables false
set_option maxRecDepth 100000
/-- The values alike modulo 2^255 - 19. -/
def Like (a b : Int) : Prop := a % P255 = b % P255
theorem Like.refl (a : Int) : Like a a := rfl
theorem Like.symm {a b : Int} (h : Like a b) : Like b a := Eq.symm h
theorem Like.trans {a b c : Int} (h : Like a b) (g : Like b c) : Like a c := Eq.trans h g
theorem Like.add {a b c d : Int} (h : Like a b) (g : Like c d) : Like (a + c) (b + d) := by
  unfold Like at *
  rw [Int.add_emod, h, g, ← Int.add_emod]
theorem Like.sub {a b c d : Int} (h : Like a b) (g : Like c d) : Like (a - c) (b - d) := by
  unfold Like at *
  rw [Int.sub_emod, h, g, ← Int.sub_emod]
theorem Like.mul {a b c d : Int} (h : Like a b) (g : Like c d) : Like (a * c) (b * d) := by
  unfold Like at *
  rw [Int.mul_emod, h, g, ← Int.mul_emod]
theorem q256_p : Q256 = 2 * P255 := by decide
theorem like_q (a c : Int) : Like (a - c * Q256) a := by
  unfold Like
  rw [q256_p, show a - c * (2 * P255) = a + P255 * (-(2 * c)) by rw [Int.mul_neg, ← Int.mul_assoc, Int.mul_comm c 2, Int.mul_comm P255]; omega]
  exact Int.add_mul_emod_self_left ..
theorem fcN_like {l : List Int} (hl : l.length = 16) : Like (vF (fcN l 16)) (vF l) := by
  obtain ⟨c, h⟩ := fcN_val hl 16 (by omega)
  rw [h]; exact like_q _ _
theorem ftimes_like {xs ys : List Int} (ha : xs.length = 16) (hb : ys.length = 16) : Like (vF (ftimes xs ys)) (vF xs * vF ys) := by
  have l1 := ftmat_length xs ys 16
  obtain ⟨c, h⟩ := ffold_val l1
  have h2 := ftmat_val (xs := xs) hb 16 (by omega)
  rw [h2] at h
  have lf := ffold_length (ftmat xs ys 16) 16
  unfold ftimes
  refine (fcN_like (by rw [fcN_length, lf])).trans ((fcN_like lf).trans ?_)
  rw [h, vF_vS xs, ha]
  exact like_q _ _
/-- What write tells: the value below 2^255 - 19. -/
theorem fwritten {xs : List Int} (w : Near 38 xs) : vF (fon (fcN xs 16) 2) = vF xs % P255 := by
  have h := ftwice_val (near_three w)
  have e : fon (fcN xs 16) 2 = fonce (fonce (fcN xs 16)) := rfl
  rw [e, h]; exact fcN_like w.1
/-- The power 2^255 - 21, as both sides reckon it. -/
def powZ (a : Int) : Nat → Int
  | 0 => a
  | n + 1 => if n = 251 ∨ n = 249 then powZ a n * powZ a n else powZ a n * powZ a n * a
theorem powZ_like {a b : Int} (h : Like a b) : ∀ n, Like (powZ a n) (powZ b n)
  | 0 => h
  | n + 1 => by
    have ih := powZ_like h n
    rw [powZ, powZ]
    split
    · exact ih.mul ih
    · exact (ih.mul ih).mul h
theorem fpow_like {xs : List Int} (hl : xs.length = 16) (w : InK 524288 xs) : ∀ n, Like (vF (fpow xs n)) (powZ (vF xs) n)
  | 0 => Like.refl _
  | n + 1 => by
    have ih := fpow_like hl w n
    obtain ⟨_, lp⟩ := fpow_in hl w n
    have h2 := (ftimes_like lp lp).trans (ih.mul ih)
    rw [fpow, powZ]
    split
    · exact h2
    · exact (ftimes_like (ftimes_length _ _) hl).trans (h2.mul (Like.refl _))
/-- One step of the ladder: the four numbers after a bit, of the four before and the point's. -/
structure Rung where
  x2 : Int
  z2 : Int
  x3 : Int
  z3 : Int
def Rung.turn (r : Rung) (b : Bool) : Rung := if b then ⟨r.x3, r.z3, r.x2, r.z2⟩ else r
def Rung.core (u : Int) (r : Rung) : Rung :=
  let a := r.x2 + r.z2
  let b := r.x2 - r.z2
  let c := r.x3 + r.z3
  let d := r.x3 - r.z3
  let aa := a * a
  let bb := b * b
  let da := d * a
  let cb := c * b
  let e := aa - bb
  ⟨aa * bb, e * (aa + e * 121665), (da + cb) * (da + cb), (da - cb) * (da - cb) * u⟩
def Rung.Like (r s : Rung) : Prop := Go.Proofs.Ytiakfdpmapmifaa.Like r.x2 s.x2 ∧ Go.Proofs.Ytiakfdpmapmifaa.Like r.z2 s.z2 ∧ Go.Proofs.Ytiakfdpmapmifaa.Like r.x3 s.x3 ∧ Go.Proofs.Ytiakfdpmapmifaa.Like r.z3 s.z3
theorem Rung.Like.turn {r s : Rung} (h : Rung.Like r s) (b : Bool) : Rung.Like (r.turn b) (s.turn b) := by
  obtain ⟨h1, h2, h3, h4⟩ := h
  cases b
  · exact ⟨h1, h2, h3, h4⟩
  · exact ⟨h3, h4, h1, h2⟩
theorem Rung.Like.core {u v : Int} {r s : Rung} (hu : Go.Proofs.Ytiakfdpmapmifaa.Like u v) (h : Rung.Like r s) : Rung.Like (r.core u) (s.core v) := by
  obtain ⟨h1, h2, h3, h4⟩ := h
  have a := h1.add h2
  have b := h1.sub h2
  have c := h3.add h4
  have d := h3.sub h4
  have aa := a.mul a
  have bb := b.mul b
  have da := d.mul a
  have cb := c.mul b
  have e := aa.sub bb
  have su := da.add cb
  have ga := da.sub cb
  exact ⟨aa.mul bb, e.mul (aa.add (e.mul (Like.refl 121665))), su.mul su, (ga.mul ga).mul hu⟩
end Go.Proofs.Ytiakfdpmapmifaa
