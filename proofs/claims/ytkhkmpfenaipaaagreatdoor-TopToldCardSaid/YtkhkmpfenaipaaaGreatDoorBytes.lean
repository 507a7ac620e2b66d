/- Part Bytes. -/
import Derived.Test.YtkhkmpfenaipaaaGreatDoorVst
import Derived.Test.YtkhkmpfenaipaaaGreatDoorW4
open Nat renaming le_refl→b
namespace Go.Proofs.YtkhkmpfenaipaaaGreatDoor
open Go Go.V
set_option linter.all false
set_option maxRecDepth 100000
theorem Nk(T:World)(h:Hp)(v:Value)(l:List Nat)(s:Bs h v l)(g:(List.length l)<=140737488355328):
  Zg Tryz.prog T 27 #[v] h fun d h'=>YL h.size 5 h' d l/\Zm h.size h h':=by
 obtain⟨p,c,rfl,i⟩:=s.open;refine Zg.X8 [_] Tryz.func27 ?_
 cases p with
 | none=>
  have:l=[]:=by
   cases l with
   | nil=>rfl
   | cons x l=>grind
  subst this;simp +contextual only[go_sem]
  grind [YL.nil,Zm.refl]
 | some a=>
  simp +contextual only[go_sem];refine ZP (E:=5) (B:=h.size) XD Tryz.underlying39 T8 SU SQ (YL.CE _ _ _ _) zX (s.YQ (Zm.push (b _) _)) zK ?_;intro d h' f e _;simp +contextual only[go_sem];exact⟨f,(Zm.push (b _) _).trans e⟩
end Go.Proofs.YtkhkmpfenaipaaaGreatDoor
