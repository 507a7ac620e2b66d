/- Part Base. -/
import Derived.Test.YtdpjmhgbmhjniaaDoorTy
namespace Go.Proofs.YtdpjmhgbmhjniaaDoor
open Go Go.V
set_option linter.unusedSimpArgs false
set_option linter.unusedVariables false
set_option maxRecDepth 100000
attribute [go_sem] Nat.reduceEqDiff Nat.reduceAdd Nat.reduceMul Nat.reduceLeDiff Nat.reduceLT Nat.reduceSub IntWalk.iteOmega IntWalk.toNatUp reduceCtorEq false_and and_false false_or or_false true_or or_true not_true_eq_false not_false_eq_true Bool.not_true Bool.not_false Bool.and_true Bool.true_and Bool.and_false Bool.false_and Bool.not_eq_true beq_self_eq_true Nat.add_zero Int.reduceLE Int.reduceLT Int.reduceToNat Int.reduceNeg
theorem Jn (T:World) (h:Hp) (a b c:Int):Zf Tryd.prog T 35 #[.int .i64 a,.int .i64 b,.int .i64 c] h fun v' h'=>v'=.bool (decide (b≤a∧a≤c))∧h'=h:=by
 refine Zf.WT [_,_,_] Tryd.func35 ?_
 by_cases h1:b≤a
 ·by_cases h2:a≤c
  ·simp +contextual -implicitDefEqProofs only[go_sem,↓reduceIte,h1,h2]
  ·simp +contextual -implicitDefEqProofs only[go_sem,↓reduceIte,h1,h2]
 ·simp +contextual -implicitDefEqProofs only[go_sem,↓reduceIte,h1]
theorem WJ (T:World) (h:Hp) (v u:Value) (l k:List Nat) (s:Bs h v l) (t:Bs h u k) :
  Zf Tryd.prog T 12 #[v,u] h fun v' h'=>v'=.bool (decide (l=k))∧h'=h:=by
 refine Zf.WT [_,_] Tryd.func12 ?_
 simp +contextual -implicitDefEqProofs only[go_sem,↓reduceIte]
 refine Vq Tryd.underlying31 Tryd.underlying9 Tryd.underlying5 s ?_
 simp +contextual -implicitDefEqProofs only[go_sem,↓reduceIte]
 refine Vq Tryd.underlying31 Tryd.underlying9 Tryd.underlying5 t ?_
 simp +contextual -implicitDefEqProofs only[go_sem,↓reduceIte]
 rw[On l k s.byte t.byte]
end Go.Proofs.YtdpjmhgbmhjniaaDoor
