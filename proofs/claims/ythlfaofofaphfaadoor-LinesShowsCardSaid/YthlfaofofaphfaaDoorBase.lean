/- Small functions that many laws reach: what each computes; no condition but those in its own statement. -/
import Derived.Test.YthlfaofofaphfaaDoorTy
namespace Go.Proofs.YthlfaofofaphfaaDoor
open Go Go.V
set_option linter.unusedSimpArgs false
set_option linter.unusedVariables false
set_option maxRecDepth 100000
attribute [go_sem] Nat.reduceEqDiff Nat.reduceAdd Nat.reduceMul Nat.reduceLeDiff Nat.reduceLT Nat.reduceSub IntWalk.iteOmega IntWalk.toNatUp reduceCtorEq false_and and_false false_or or_false true_or or_true not_true_eq_false not_false_eq_true Bool.not_true Bool.not_false Bool.and_true Bool.true_and Bool.and_false Bool.false_and Bool.not_eq_true beq_self_eq_true Nat.add_zero Int.reduceLE Int.reduceLT Int.reduceToNat Int.reduceNeg
theorem Xj (T:World) (h:Hp) (a b c:Int):Ze Tryd.prog T 25 #[.int .i64 a,.int .i64 b,.int .i64 c] h fun v' h'=>v'=.bool (decide (b≤a∧a≤c))∧h'=h:=by
 refine Ze.Zn (args:=[_,_,_]) Tryd.func25 rfl rfl rfl rfl ?_
 by_cases h1:b≤a
 ·by_cases h2:a≤c
  ·simp +contextual -implicitDefEqProofs only[go_sem,↓reduceIte,h1,h2]
  ·simp +contextual -implicitDefEqProofs only[go_sem,↓reduceIte,h1,h2]
 ·simp +contextual -implicitDefEqProofs only[go_sem,↓reduceIte,h1]
theorem TI (T:World) (h:Hp) (v:Value) (l:List Nat) (s:Bs h v l) (hl:l.length≤140737488355328) :
  Ze Tryd.prog T 11 #[v] h fun v' h'=>Xg h.size 5 h' v' l∧Zg h.size h h':=by
 refine Ze.Zn (args:=[_]) Tryd.func11 rfl rfl rfl rfl ?_
 simp +contextual -implicitDefEqProofs only[go_sem,↓reduceIte]
 refine WU (E:=5) (n:=1) (B:=h.size) (bytes:=1) (m:=0) (cs:=[]) Yc Tryd.underlying32 U4 U6 rfl U5 (YX.nil _ _ _ _) (Nat.le_refl _) s.sl (WX l) (by omega) (Nat.le_refl _) ?_
 intro v' h' ho hb
 simp +contextual -implicitDefEqProofs only[go_sem,↓reduceIte]
 rw[Nat.zero_add,List.nil_append]at ho
 exact⟨⟨ho,s.byte⟩,hb.ZZ (Nat.le_refl _) (fun b hb=>by simp[Zj]at hb)⟩
theorem Uj (T:World) (h:Hp) (v u:Value) (l k:List Nat) (s:Bs h v l) (t:Bs h u k) :
  Ze Tryd.prog T 18 #[v,u] h fun v' h'=>v'=.bool (decide (l=k))∧h'=h:=by
 refine Ze.Zn (args:=[_,_]) Tryd.func18 rfl rfl rfl rfl ?_
 simp +contextual -implicitDefEqProofs only[go_sem,↓reduceIte]
 refine Ya Tryd.underlying32 Tryd.underlying9 Tryd.underlying5 s ?_
 simp +contextual -implicitDefEqProofs only[go_sem,↓reduceIte]
 refine Ya Tryd.underlying32 Tryd.underlying9 Tryd.underlying5 t ?_
 simp +contextual -implicitDefEqProofs only[go_sem,↓reduceIte]
 rw[SP l k s.byte t.byte]
end Go.Proofs.YthlfaofofaphfaaDoor
