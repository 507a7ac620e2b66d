/- Part Bytes. -/
import Derived.Test.YtdapjaalaomghaaGreatDoorVst
import Derived.Test.YtdapjaalaomghaaGreatDoorW4
open Nat renaming le_refl→d
namespace Go.Proofs.YtdapjaalaomghaaGreatDoor
open Go Go.V
set_option linter.all false
set_option maxRecDepth 100000
theorem Oj(T:World)(h:Hp)(v:Value)(l:List Nat)(s:Bs h v l)(hl:(List.length l)<=140737488355328):
  Zd Tryz.prog T 21 #[v] h fun v' h'=>Yx h.size 5 h' v' l/\Zj h.size h h':=by
 obtain⟨p,c,rfl,WE⟩:=s.open;refine Zd.XT [_] Tryz.func21 ?_
 cases p with
 | none=>
  have:l=[]:=by
   cases l with
   | nil=>rfl
   | cons x l=>obtain⟨b,o,hp,_⟩:=WE uK;cases hp
  subst this;simp +contextual only[go_sem]
  first|exact⟨Yx.nil _ _ _,Zj.refl _ _⟩|exact Yx.nil _ _ _
 | some a=>
  simp +contextual only[go_sem];refine ZJ (E:=5) (B:=h.size) Xd Tryz.underlying26 Tv Si Sh (Yx.EH _ _ _ _) uK (s.Yz (Zj.push (d _) _)) (by simpa using hl) ?_;intro v' h' Me J9 _;simp +contextual only[go_sem];exact⟨Me,(Zj.push (d _) _).trans J9⟩
end Go.Proofs.YtdapjaalaomghaaGreatDoor
