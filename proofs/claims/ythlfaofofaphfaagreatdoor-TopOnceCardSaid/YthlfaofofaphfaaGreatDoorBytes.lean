/- Part Bytes. -/
import Derived.Test.YthlfaofofaphfaaGreatDoorVst
import Derived.Test.YthlfaofofaphfaaGreatDoorW4
open Nat renaming le_refl→d
namespace Go.Proofs.YthlfaofofaphfaaGreatDoor
open Go Go.V
set_option linter.unusedSimpArgs false
set_option linter.unusedVariables false
set_option maxRecDepth 100000
theorem On(T:World)(h:Hp)(v:Value)(l:List Nat)(s:Bs h v l)(hl:(List.length l)<=140737488355328):
  Zd Tryz.prog T 23 #[v] h fun v' h'=>YB h.size 5 h' v' l/\Zj h.size h h':=by
 obtain⟨p,c,rfl,WB⟩:=s.open;refine Zd.XS [_] Tryz.func23 ?_
 cases p with
 | none=>
  have:l=[]:=by
   cases l with
   | nil=>rfl
   | cons x l=>obtain⟨b,o,hp,_⟩:=WB IQ;cases hp
  subst this;simp +contextual -implicitDefEqProofs only[go_sem]
  first|exact⟨YB.nil _ _ _,Zj.refl _ _⟩|exact YB.nil _ _ _
 | some a=>
  simp +contextual -implicitDefEqProofs only[go_sem];refine ZK (E:=5) (B:=h.size) Xl Tryz.underlying28 TA Sn Sm (YB.EX _ _ _ _) IQ (s.Yz (Zj.push (d _) _)) (by simpa using hl) ?_;intro v' h' Mr Qi _;simp +contextual -implicitDefEqProofs only[go_sem];exact⟨Mr,(Zj.push (d _) _).trans Qi⟩
end Go.Proofs.YthlfaofofaphfaaGreatDoor
