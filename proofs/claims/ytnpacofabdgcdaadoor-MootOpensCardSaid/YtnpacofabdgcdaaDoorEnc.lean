/- OrderEncodes holds: order.Encode answers what the document says, at every argument; without any condition. -/
import Derived.Test.YtnpacofabdgcdaaDoorOchk
import Derived.Test.YtnpacofabdgcdaaDoorBytes
import Derived.Test.YtnpacofabdgcdaaDoorW6
namespace Go.Proofs.YtnpacofabdgcdaaDoor
open Go Go.V
set_option linter.unusedSimpArgs false
set_option linter.unusedVariables false
set_option maxRecDepth 100000
/-- Four bytes of a number, the highest one first. -/
def high4 (n : Nat) : List Nat := [n / 16777216 % 256, n / 65536 % 256, n / 256 % 256, n % 256]
theorem high4_byte (n : Nat) : ∀ x ∈ high4 n, x < 256 := by
  intro x hx
  simp only [high4, List.mem_cons, List.not_mem_nil, or_false] at hx
  omega
theorem shr_i64 (n k : Nat) (hk : k ≤ 64) : shrOp .i64 (n : Int) (k : Int) = ((n / 2 ^ k : Nat) : Int) := by
  rw [shr_nat .i64 n k hk, Nat.shiftRight_eq_div_pow]
theorem numbers_ok (T : World) (h : Hp) (b : Nat) :
    CallsH Tryd.prog T 142 #[.pointer (some ⟨b, 0, none⟩)] h fun v' h' => v' = .agg [.pointer (some ⟨b, 0, none⟩), .pointer (some ⟨b, 1, none⟩), .pointer (some ⟨b, 2, none⟩), .pointer (some ⟨b, 3, none⟩), .pointer (some ⟨b, 4, none⟩)].toArray ∧ Bel h.size h h' := by
  refine CallsH.of_code' (args := [_]) Tryd.func142 rfl rfl rfl rfl ?_
  simp (config := {contextual := true, maxSteps := 2000000, implicitDefEqProofs := false}) only [go_sem, ↓reduceIte, Nat.reduceEqDiff, Nat.reduceAdd, Nat.reduceMul, Nat.reduceLeDiff, Nat.reduceLT, Nat.reduceSub, IntWalk.iteOmega, IntWalk.toNatUp, reduceCtorEq, Int.reduceLE, Int.reduceLT, Int.reduceToNat, Int.reduceNeg]
  refine VS.b h.size [(0, true), (1, true), (2, true), (3, true), (4, true), (5, true), (6, true), (7, true), (8, true), (9, true), (10, true), (11, true), (12, true), (13, true), (14, true), (15, true), (16, false)] mixed (by kernel_rfl) ?_
  simp (config := {contextual := true, maxSteps := 2000000, implicitDefEqProofs := false}) only [go_sem, ↓reduceIte, Nat.reduceEqDiff, Nat.reduceAdd, Nat.reduceMul, Nat.reduceLeDiff, Nat.reduceLT, Nat.reduceSub, IntWalk.iteOmega, IntWalk.toNatUp, reduceCtorEq, Int.reduceLE, Int.reduceLT, Int.reduceToNat, Int.reduceNeg]
  first | exact ⟨Bel.pp (Nat.le_refl _) _ _, Bel.push (Nat.le_refl _) _⟩ | exact Bel.pp (Nat.le_refl _) _ _ | exact Bel.push (Nat.le_refl _) _
/-- A command's bytes. -/
def cmdBytes (xs : List Nat) : List Nat := xs.flatMap high4
theorem cmdBytes_length (xs : List Nat) : (cmdBytes xs).length = 4 * xs.length := by
  unfold cmdBytes
  induction xs with
  | nil => rfl
  | cons x l ih => simp [ih, high4]; omega
def ptrs (b : Nat) : List Value := [.pointer (some ⟨b, 0, none⟩), .pointer (some ⟨b, 1, none⟩), .pointer (some ⟨b, 2, none⟩), .pointer (some ⟨b, 3, none⟩), .pointer (some ⟨b, 4, none⟩)]
theorem ptrs_nth (b i : Nat) (hi : i < 5) : nth (ptrs b) i = some (.pointer (some ⟨b, i, none⟩)) := by
  rcases i with _ | _ | _ | _ | _ | i <;> first | rfl | omega
def EncRes (h' : Hp) (v' : Value) (k c s n v : Int) : Prop :=
  ∃ w, v' = .tuple [w, .int .i64 (cmdErr k c s n v)].toArray ∧ Bs h' w (if cmdErr k c s n v = 0 then cmdBytes [k.toNat, c.toNat, s.toNat, n.toNat, v.toNat] else [])
end Go.Proofs.YtnpacofabdgcdaaDoor
