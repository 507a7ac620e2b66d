/- Part Bytes. -/
import Derived.Test.YtnhfdnlcpdbjlaaGreatDoorVst
import Derived.Test.YtnhfdnlcpdbjlaaGreatDoorW4
open Nat renaming le_refl→d
namespace Go.Proofs.YtnhfdnlcpdbjlaaGreatDoor
open Go Go.V
set_option linter.all false
set_option maxRecDepth 100000
theorem Gc(T:World)(h:Hp)(v:Value)(l:List Nat)(s:Bs h v l)(hl:(List.length l)<=140737488355328):
  Zg Tryz.prog T 46 #[v] h fun v' h'=>YB h.size 5 h' v' l/\Zk h.size h h':=by
 obtain⟨p,c,rfl,Vx⟩:=s.open;refine Zg.XK [_] Tryz.func46 ?_
 cases p with
 | none=>
  have:l=[]:=by
   cases l with
   | nil=>rfl
   | cons x l=>obtain⟨b,o,hp,_⟩:=Vx sW;cases hp
  subst this;simp +contextual only[go_sem]
  first|exact⟨YB.nil _ _ _,Zk.refl _ _⟩|exact YB.nil _ _ _
 | some a=>
  simp +contextual only[go_sem];refine ZR (E:=5) (B:=h.size) Xn Tryz.underlying34 TX SN SM (YB.Ec _ _ _ _) sW (s.YJ (Zk.push (d _) _)) (by simpa using hl) ?_;intro v' h' NP JU _;simp +contextual only[go_sem];exact⟨NP,(Zk.push (d _) _).trans JU⟩
end Go.Proofs.YtnhfdnlcpdbjlaaGreatDoor
