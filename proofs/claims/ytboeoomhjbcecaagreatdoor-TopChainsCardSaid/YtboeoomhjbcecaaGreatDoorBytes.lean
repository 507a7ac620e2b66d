/- Bytes joined and cloned: what the two small functions compute; no condition but those in the statements. -/
import Derived.Test.YtboeoomhjbcecaaGreatDoorVst
import Derived.Test.YtboeoomhjbcecaaGreatDoorW4
namespace Go.Proofs.YtboeoomhjbcecaaGreatDoor
open Go Go.V
set_option linter.unusedSimpArgs false
set_option linter.unusedVariables false
set_option maxRecDepth 100000
theorem Sh (T:World) (h:Hp) (v:Value) (l:List Nat) (s:Bs h v l) (hl:l.length≤140737488355328) :
  Zc Tryz.prog T 16 #[v] h fun v' h'=>Z0 h.size 5 h' v' l∧Zg h.size h h':=by
 obtain⟨p,c,rfl,Us⟩:=s.open;refine Zc.Zj (args:=[_]) Tryz.func16 rfl rfl rfl rfl ?_
 cases p with
 | none=>
  have:l=[]:=by
   cases l with
   | nil=>rfl
   | cons x l=>obtain⟨b,o,hp,_⟩:=Us (by simp);cases hp
  subst this;simp +contextual -implicitDefEqProofs only[go_sem,↓reduceIte]
  first|exact⟨Z0.nil _ _ _,Zg.refl _ _⟩|exact Z0.nil _ _ _
 | some a=>
  simp +contextual -implicitDefEqProofs only[go_sem,↓reduceIte];refine Zv (E:=5) (B:=h.size) YA Tryz.underlying48 Wi WY WX (Z0.I4 _ _ _ _) (by simp) (s.Z3 (Zg.push (Nat.le_refl _) _)) (by simpa using hl) ?_;intro v' h' RS XU _;simp +contextual -implicitDefEqProofs only[go_sem,↓reduceIte];exact⟨RS,(Zg.push (Nat.le_refl _) _).trans XU⟩
end Go.Proofs.YtboeoomhjbcecaaGreatDoor
