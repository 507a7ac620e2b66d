/- TopMinority: the law's walk. -/
import Derived.Test.YtkfhncfkagcamaaGreatDoorTpt
namespace Go.Proofs.YtkfhncfkagcamaaGreatDoor
open Go Go.V
set_option linter.unusedSimpArgs false
set_option linter.unusedVariables false
set_option maxRecDepth 100000
theorem jc (g:Gr):(Ur g false).k≤7:=by
 unfold Ur
 repeat' split
 all_goals (first|(simp only;omega)|(simp at *))
theorem pX (gs:List Gr) (Xb:Nat):∀x∈jG gs Xb false,x.k≤7:=by
 have key:∀(l:List Gr) (st:Nat × List Raw),(∀x∈st.2,x.k≤7)→∀x∈(l.foldl (Q0 false) st).2,x.k≤7:=by
  intro l
  induction l with
  | nil=>intro st h;exact h
  | cons g l ih=>
   intro st h
   refine ih _ (fun x hx=>?_)
   unfold Q0 at hx
   rcases List.mem_append.1 hx with hx|hx
   ·exact h x hx
   ·rw[List.mem_singleton.1 hx]
    unfold To
    split
    ·show (7:Int)≤7;omega
    ·exact jc g
 exact key _ _ (fun x hx=>by cases hx)
end Go.Proofs.YtkfhncfkagcamaaGreatDoor
