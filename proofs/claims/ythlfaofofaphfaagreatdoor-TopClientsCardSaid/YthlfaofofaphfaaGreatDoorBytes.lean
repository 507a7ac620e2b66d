/- Part Bytes. -/
import Derived.Test.YthlfaofofaphfaaGreatDoorVst
import Derived.Test.YthlfaofofaphfaaGreatDoorW4
open Nat renaming le_refl→d
namespace Go.Proofs.YthlfaofofaphfaaGreatDoor
open Go Go.V
set_option linter.unusedSimpArgs false
set_option linter.unusedVariables false
set_option maxRecDepth 100000
theorem PM(T:World)(h:Hp)(v:Value)(l:List Nat)(s:Bs h v l)(hl:(List.length l)<=140737488355328):
  Zd Tryz.prog T 23 #[v] h fun v' h'=>Yx h.size 5 h' v' l/\Zk h.size h h':=by
 obtain⟨p,c,rfl,Wr⟩:=s.open;refine Zd.XS [_] Tryz.func23 ?_
 cases p with
 | none=>
  have:l=[]:=by
   cases l with
   | nil=>rfl
   | cons x l=>obtain⟨b,o,hp,_⟩:=Wr Hg;cases hp
  subst this;simp +contextual -implicitDefEqProofs only[go_sem]
  first|exact⟨Yx.nil _ _ _,Zk.refl _ _⟩|exact Yx.nil _ _ _
 | some a=>
  simp +contextual -implicitDefEqProofs only[go_sem];refine ZK (E:=5) (B:=h.size) Xg Tryz.underlying28 Ti T4 T3 (Yx.Eo _ _ _ _) Hg (s.Yy (Zk.push (d _) _)) (by simpa using hl) ?_;intro v' h' NM Qa _;simp +contextual -implicitDefEqProofs only[go_sem];exact⟨NM,(Zk.push (d _) _).trans Qa⟩
end Go.Proofs.YthlfaofofaphfaaGreatDoor
