/- Bytes joined and cloned: what the two small functions compute; no condition but those in the statements. -/
import Derived.Test.YtpomedigibbeeaaGreatDoorVst
import Derived.Test.YtpomedigibbeeaaGreatDoorW4
namespace Go.Proofs.YtpomedigibbeeaaGreatDoor
open Go Go.V
set_option linter.unusedSimpArgs false
set_option linter.unusedVariables false
set_option maxRecDepth 100000
theorem Lj (T:World) (h:Hp) (v:Value) (l:List Nat) (s:Bs h v l) (hl:l.length≤140737488355328) :
  Zc Tryz.prog T 30 #[v] h fun v' h'=>ZZ h.size 5 h' v' l∧Zf h.size h h':=by
 obtain⟨p,c,rfl,Uo⟩:=s.open
 refine Zc.Zh (args:=[_]) Tryz.func30 rfl rfl rfl rfl ?_
 cases p with
 | none=>
  have:l=[]:=by
   cases l with
   | nil=>rfl
   | cons x l=>obtain⟨b,o,hp,_⟩:=Uo (by simp);cases hp
  subst this
  simp +contextual -implicitDefEqProofs only[go_sem,↓reduceIte]
  first|exact⟨ZZ.nil _ _ _,Zf.refl _ _⟩|exact ZZ.nil _ _ _
 | some a=>
  simp +contextual -implicitDefEqProofs only[go_sem,↓reduceIte]
  refine Zv (E:=5) (B:=h.size) Yt Tryz.underlying34 Wh Vb Va (ZZ.KL _ _ _ _) (by simp) (s.Z7 (Zf.push (Nat.le_refl _) _)) (by simpa using hl) ?_
  intro v' h' S4 XX _
  simp +contextual -implicitDefEqProofs only[go_sem,↓reduceIte]
  exact⟨S4,(Zf.push (Nat.le_refl _) _).trans XX⟩
end Go.Proofs.YtpomedigibbeeaaGreatDoor
