/- Bytes joined and cloned: what the two small functions compute; no condition but those in the statements. -/
import Derived.Test.YtboeoomhjbcecaaGreatDoorVst
import Derived.Test.YtboeoomhjbcecaaGreatDoorW4
namespace Go.Proofs.YtboeoomhjbcecaaGreatDoor
open Go Go.V
set_option linter.unusedSimpArgs false
set_option linter.unusedVariables false
set_option maxRecDepth 100000
theorem Sk (T:World) (h:Hp) (v:Value) (l:List Nat) (s:Bs h v l) (hl:l.length≤140737488355328) :
  Zc Tryz.prog T 16 #[v] h fun v' h'=>Z0 h.size 5 h' v' l∧Zf h.size h h':=by
 obtain⟨p,c,rfl,Us⟩:=s.open;refine Zc.Zk (args:=[_]) Tryz.func16 rfl rfl rfl rfl ?_
 cases p with
 | none=>
  have:l=[]:=by
   cases l with
   | nil=>rfl
   | cons x l=>obtain⟨b,o,hp,_⟩:=Us (by simp);cases hp
  subst this;simp +contextual -implicitDefEqProofs only[go_sem,↓reduceIte]
  first|exact⟨Z0.nil _ _ _,Zf.refl _ _⟩|exact Z0.nil _ _ _
 | some a=>
  simp +contextual -implicitDefEqProofs only[go_sem,↓reduceIte];refine Zv (E:=5) (B:=h.size) YD Tryz.underlying48 Wg WY WX (Z0.I9 _ _ _ _) (by simp) (s.Z2 (Zf.push (Nat.le_refl _) _)) (by simpa using hl) ?_;intro v' h' R7 XH _;simp +contextual -implicitDefEqProofs only[go_sem,↓reduceIte];exact⟨R7,(Zf.push (Nat.le_refl _) _).trans XH⟩
end Go.Proofs.YtboeoomhjbcecaaGreatDoor
