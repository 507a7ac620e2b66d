/- Bytes joined and cloned: what the two small functions compute; no condition but those in the statements. -/
import Derived.Test.YtkfhncfkagcamaaGreatDoorVst
import Derived.Test.YtkfhncfkagcamaaGreatDoorW4
namespace Go.Proofs.YtkfhncfkagcamaaGreatDoor
open Go Go.V
set_option linter.unusedSimpArgs false
set_option linter.unusedVariables false
set_option maxRecDepth 100000
theorem LA (T:World) (h:Hp) (v:Value) (l:List Nat) (s:Bs h v l) (hl:l.length≤140737488355328) :
  Zd Tryz.prog T 40 #[v] h fun v' h'=>Z1 h.size 5 h' v' l∧Ze h.size h h':=by
 obtain⟨p,c,rfl,UA⟩:=s.open
 refine Zd.Zi (args:=[_]) Tryz.func40 rfl rfl rfl rfl ?_
 cases p with
 | none=>
  have:l=[]:=by
   cases l with
   | nil=>rfl
   | cons x l=>obtain⟨b,o,hp,_⟩:=UA (by simp);cases hp
  subst this
  simp +contextual -implicitDefEqProofs only[go_sem,↓reduceIte]
  first|exact⟨Z1.nil _ _ _,Ze.refl _ _⟩|exact Z1.nil _ _ _
 | some a=>
  simp +contextual -implicitDefEqProofs only[go_sem,↓reduceIte]
  refine Zv (E:=5) (B:=h.size) Yt Tryz.underlying34 Wf Vh Vg (Z1.Ip _ _ _ _) (by simp) (s.Z4 (Ze.push (Nat.le_refl _) _)) (by simpa using hl) ?_
  intro v' h' Rt X3 _
  simp +contextual -implicitDefEqProofs only[go_sem,↓reduceIte]
  exact⟨Rt,(Ze.push (Nat.le_refl _) _).trans X3⟩
end Go.Proofs.YtkfhncfkagcamaaGreatDoor
