/- Part Bytes. -/
import Derived.Test.YtdpjmhgbmhjniaaGreatDoorVst
import Derived.Test.YtdpjmhgbmhjniaaGreatDoorW4
open Nat renaming le_refl→d
namespace Go.Proofs.YtdpjmhgbmhjniaaGreatDoor
open Go Go.V
set_option linter.all false
set_option maxRecDepth 100000
theorem Il(T:World)(h:Hp)(v:Value)(l:List Nat)(s:Bs h v l)(hl:(List.length l)<=140737488355328):
  Zc Tryz.prog T 31 #[v] h fun v' h'=>Yd h.size 5 h' v' l/\Zf h.size h h':=by
 obtain⟨p,c,rfl,UX⟩:=s.open;refine Zc.Y8 [_] Tryz.func31 ?_
 cases p with
 | none=>
  have:l=[]:=by
   cases l with
   | nil=>rfl
   | cons x l=>obtain⟨b,o,hp,_⟩:=UX Dq;cases hp
  subst this;simp +contextual -implicitDefEqProofs only[go_sem]
  first|exact⟨Yd.nil _ _ _,Zf.refl _ _⟩|exact Yd.nil _ _ _
 | some a=>
  simp +contextual -implicitDefEqProofs only[go_sem];refine ZF (E:=5) (B:=h.size) YN Tryz.underlying39 WS VC VB (Yd.HX _ _ _ _) Dq (s.Yb (Zf.push (d _) _)) (by simpa using hl) ?_;intro v' h' PW Jc _;simp +contextual -implicitDefEqProofs only[go_sem];exact⟨PW,(Zf.push (d _) _).trans Jc⟩
end Go.Proofs.YtdpjmhgbmhjniaaGreatDoor
