/- V6: numbers: bits and shifts of numbers that are not below 0. -/
import Derived.Test.YtiakfdpmapmifaaV5
namespace Go.V

/-- The number in a slot, for a measure. -/
def vi : Value → Int | .int _ n => n | _ => 0
theorem take_snoc {α : Type} (l : List α) (i : Nat) (hi : i < l.length) : l.take (i + 1) = l.take i ++ [l[i]] := List.take_succ_eq_append_getElem hi

/-- int's wrap, where linear arithmetic can do away with it. -/
def w64 (n : Int) : Int := IntKind.i64.wrap n
theorem wrap64_ite (n : Int) : IntKind.i64.wrap n = if -9223372036854775808 ≤ n ∧ n ≤ 9223372036854775807 then n else w64 n := by
  split
  · rename_i h; exact IntWalk.i64_in n h
  · rfl
theorem wrap_u8_mod (n : Int) : IntKind.u8.wrap n = n % 256 := by simp [IntKind.wrap, IntKind.bits, IntKind.signed]
theorem wrap_u32_mod (n : Int) : IntKind.u32.wrap n = n % 4294967296 := by simp [IntKind.wrap, IntKind.bits, IntKind.signed]
theorem wrap_u64_mod (n : Int) : IntKind.u64.wrap n = n % 18446744073709551616 := by simp [IntKind.wrap, IntKind.bits, IntKind.signed]
attribute [go_sem] wrap64_ite wrap_u8_mod wrap_u32_mod wrap_u64_mod true_and and_true ne_eq not_true_eq_false not_false_eq_true decide_true decide_false Bool.false_eq_true Int.toNat_natCast Nat.mul_one
end Go.V
