/- V9: closed facts of a row, by the head of the program's text read once. -/
import Derived.Test.YtiakfdpmapmifaaV8
namespace Go.V

theorem cut_make {P : Program} {rest : List (List Char)} (h : behindMainWord (wordsSigns P.initOrder.toList) = "cut".toList :: rest) : P.make = some .cut := by
  unfold Program.make
  rw [h]
  simp only
  rw [if_neg (by decide), if_pos (by rfl)]
theorem strip_cut (rest : List (List Char)) : stripLifts liftWords ("cut".toList :: rest) = ([], "cut".toList :: rest) := by rfl
theorem cut_lifts {P : Program} {rest : List (List Char)} (h : behindMainWord (wordsSigns P.initOrder.toList) = "cut".toList :: rest) : P.liftsFinal = false := by
  unfold Program.liftsFinal Program.headLifts
  rw [h, strip_cut]
  rfl
theorem cut_enter {P : Program} {rest : List (List Char)} (h : behindMainWord (wordsSigns P.initOrder.toList) = "cut".toList :: rest) (h1 : P.laysLater = false) (h2 : P.bearsReflect = false) (h3 : P.doorFits [] = true) : P.mayEnter = true := by
  unfold Program.mayEnter
  rw [h]
  simp only [strip_cut, h1, h2, h3]
  rw [Bool.or_eq_true]
  exact .inr rfl
theorem cut_words {P : Program} {L : List Char} (h : P.initOrder = String.ofList L) (h2 : ((behindMainWord (wordsSigns L)).head? == some "cut".toList) = true) : ∃ rest, behindMainWord (wordsSigns P.initOrder.toList) = "cut".toList :: rest := by
  rw [h, String.toList_ofList]
  revert h2
  cases behindMainWord (wordsSigns L) with
  | nil => intro h; cases h
  | cons a l =>
    intro h
    have h' : a = "cut".toList := by
      have := eq_of_beq h
      simpa using this
    exact ⟨l, by rw [h']⟩
end Go.V
