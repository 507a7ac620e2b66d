/- Bytes joined and cloned: what the two small functions compute; no condition but those in the statements. -/
import Derived.Test.YtnhbpmoeaodmnaaGreatDoorVst
import Derived.Test.YtnhbpmoeaodmnaaGreatDoorW4
namespace Go.Proofs.YtnhbpmoeaodmnaaGreatDoor
open Go Go.V
set_option linter.unusedSimpArgs false
set_option linter.unusedVariables false
set_option maxRecDepth 100000
theorem clone_ok (T:World) (h:Hp) (v:Value) (l:List Nat) (s:Bs h v l) (hl:l.length≤140737488355328) :
  CallsH Tryz.prog T 45 #[v] h fun v' h'=>OBs h.size 5 h' v' l∧Bel h.size h h':=by
 obtain ⟨p,c,rfl,hc1⟩:=s.open
 refine CallsH.of_code' (args:=[_]) Tryz.func45 rfl rfl rfl rfl ?_
 cases p with
 | none=>
  have:l=[]:=by
   cases l with
   | nil=>rfl
   | cons x l=>obtain ⟨b,o,hp,_⟩:=hc1 (by simp); cases hp
  subst this
  simp +contextual -implicitDefEqProofs (maxSteps:=2000000) only [go_sem,↓reduceIte]
  first | exact ⟨OBs.nil _ _ _,Bel.refl _ _⟩ | exact OBs.nil _ _ _
 | some a=>
  simp +contextual -implicitDefEqProofs (maxSteps:=2000000) only [go_sem,↓reduceIte]
  refine append_bytes (E:=5) (B:=h.size) tsl44 Tryz.underlying44 tn5 tz5 tb5 (OBs.nil' _ _ _ _) (by simp) (s.bel (Bel.push (Nat.le_refl _) _)) (by simpa using hl) ?_
  intro v' h' ho' hb' _
  simp +contextual -implicitDefEqProofs (maxSteps:=2000000) only [go_sem,↓reduceIte]
  exact ⟨ho',(Bel.push (Nat.le_refl _) _).trans hb'⟩
end Go.Proofs.YtnhbpmoeaodmnaaGreatDoor
