/- Bytes joined and cloned: what the two small functions compute; no condition but those in the statements. -/
import Derived.Test.YtpomedigibbeeaaGreatDoorVst
import Derived.Test.YtpomedigibbeeaaGreatDoorW4
namespace Go.Proofs.YtpomedigibbeeaaGreatDoor
open Go Go.V
set_option linter.unusedSimpArgs false
set_option linter.unusedVariables false
set_option maxRecDepth 100000
theorem LQ (T:World) (h:Hp) (v:Value) (l:List Nat) (s:Bs h v l) (hl:l.length≤140737488355328) :
  Zd Tryz.prog T 30 #[v] h fun v' h'=>Z0 h.size 5 h' v' l∧Zg h.size h h':=by
 obtain⟨p,c,rfl,UF⟩:=s.open
 refine Zd.Zj (args:=[_]) Tryz.func30 rfl rfl rfl rfl ?_
 cases p with
 | none=>
  have:l=[]:=by
   cases l with
   | nil=>rfl
   | cons x l=>obtain⟨b,o,hp,_⟩:=UF (by simp);cases hp
  subst this
  simp +contextual -implicitDefEqProofs only[go_sem,↓reduceIte]
  first|exact⟨Z0.nil _ _ _,Zg.refl _ _⟩|exact Z0.nil _ _ _
 | some a=>
  simp +contextual -implicitDefEqProofs only[go_sem,↓reduceIte]
  refine Zw (E:=5) (B:=h.size) YC Tryz.underlying34 WH VA Vz (Z0.Iw _ _ _ _) (by simp) (s.Ya (Zg.push (Nat.le_refl _) _)) (by simpa using hl) ?_
  intro v' h' RH XN _
  simp +contextual -implicitDefEqProofs only[go_sem,↓reduceIte]
  exact⟨RH,(Zg.push (Nat.le_refl _) _).trans XN⟩
end Go.Proofs.YtpomedigibbeeaaGreatDoor
