/- Bytes joined and cloned: what the two small functions compute; no condition but those in the statements. -/
import Derived.Test.YtnhbpmoeaodmnaaGreatDoorVst
import Derived.Test.YtnhbpmoeaodmnaaGreatDoorW4
namespace Go.Proofs.YtnhbpmoeaodmnaaGreatDoor
open Go Go.V
set_option linter.unusedSimpArgs false
set_option linter.unusedVariables false
set_option maxRecDepth 100000
theorem Zgp (T:World) (h:Hp) (v:Value) (l:List Nat) (s:Bs h v l) (hl:l.length≤140737488355328) :
  Zd Tryz.prog T 45 #[v] h fun v' h'=>ZZ h.size 5 h' v' l∧Zf h.size h h':=by
 obtain⟨p,c,rfl,hc1⟩:=s.open
 refine Zd.Zi (args:=[_]) Tryz.func45 rfl rfl rfl rfl ?_
 cases p with
 | none=>
  have:l=[]:=by
   cases l with
   | nil=>rfl
   | cons x l=>obtain⟨b,o,hp,_⟩:=hc1 (by simp);cases hp
  subst this
  simp +contextual -implicitDefEqProofs only[go_sem,↓reduceIte]
  first|exact⟨ZZ.nil _ _ _,Zf.refl _ _⟩|exact ZZ.nil _ _ _
 | some a=>
  simp +contextual -implicitDefEqProofs only[go_sem,↓reduceIte]
  refine Zv (E:=5) (B:=h.size) Yx Tryz.underlying44 tn5 tz5 tb5 (ZZ.Zhw _ _ _ _) (by simp) (s.Z9 (Zf.push (Nat.le_refl _) _)) (by simpa using hl) ?_
  intro v' h' ho' XL _
  simp +contextual -implicitDefEqProofs only[go_sem,↓reduceIte]
  exact⟨ho',(Zf.push (Nat.le_refl _) _).trans XL⟩
end Go.Proofs.YtnhbpmoeaodmnaaGreatDoor
