/- V6: numbers: bits and shifts of numbers that are not below 0. -/
import Derived.Test.YtiakfdpmapmifaaV5
namespace Go.V

/-- The number in a slot, for a measure. -/
def vi : Value → Int | .int _ n => n | _ => 0
theorem take_snoc {α : Type} (l : List α) (i : Nat) (hi : i < l.length) : l.take (i + 1) = l.take i ++ [l[i]] := List.take_succ_eq_append_getElem hi

/-- int's wrap, where linear arithmetic can do away with it. -/
def w64 (n : Int) : Int := IntKind.i64.wrap n
theorem wrap64_ite (n : Int) : IntKind.i64.wrap n = if -9223372036854775808 ≤ n ∧ n ≤ 9223372036854775807 then n else w64 n := by
  split
  · rename_i h; exact IntWalk.i64_in n h
  · rfl
theorem wrap_u8_mod (n : Int) : IntKind.u8.wrap n = n % 256 := by simp [IntKind.wrap, IntKind.bits, IntKind.signed]
theorem wrap_u32_mod (n : Int) : IntKind.u32.wrap n = n % 4294967296 := by simp [IntKind.wrap, IntKind.bits, IntKind.signed]
theorem wrap_u64_mod (n : Int) : IntKind.u64.wrap n = n % 18446744073709551616 := by simp [IntKind.wrap, IntKind.bits, IntKind.signed]
attribute [go_sem] wrap64_ite wrap_u8_mod wrap_u32_mod wrap_u64_mod true_and and_true ne_eq not_true_eq_false not_false_eq_true decide_true decide_false Bool.false_eq_true Int.toNat_natCast Nat.mul_one
theorem ofInt_nat (w a : Nat) : BitVec.ofInt w (a : Int) = BitVec.ofNat w a := by
  apply BitVec.eq_of_toNat_eq
  simp [BitVec.toNat_ofNat]

theorem wrap_nat (k : IntKind) (n : Nat) (h : n < 2 ^ (if k.signed then k.bits - 1 else k.bits)) : k.wrap (n : Int) = n := by
  cases k <;> simp [IntKind.wrap, IntKind.bits, IntKind.signed] at h ⊢ <;> omega

theorem bitOp_and (k : IntKind) (a b : Nat) (ha : a < 2 ^ (if k.signed then k.bits - 1 else k.bits)) (hb : b < 2 ^ (if k.signed then k.bits - 1 else k.bits)) : bitOp .and k a b = ((a &&& b : Nat) : Int) := by
  have hle : 2 ^ (if k.signed then k.bits - 1 else k.bits) ≤ 2 ^ k.bits := Nat.pow_le_pow_right (by omega) (by split <;> omega)
  simp only [bitOp, ofInt_nat]
  rw [BitVec.toNat_and, BitVec.toNat_ofNat, BitVec.toNat_ofNat, Nat.mod_eq_of_lt (by omega), Nat.mod_eq_of_lt (by omega)]
  exact wrap_nat k _ (Nat.lt_of_le_of_lt Nat.and_le_left ha)
theorem bitOp_or (k : IntKind) (a b : Nat) (ha : a < 2 ^ (if k.signed then k.bits - 1 else k.bits)) (hb : b < 2 ^ (if k.signed then k.bits - 1 else k.bits)) : bitOp .or k a b = ((a ||| b : Nat) : Int) := by
  have hle : 2 ^ (if k.signed then k.bits - 1 else k.bits) ≤ 2 ^ k.bits := Nat.pow_le_pow_right (by omega) (by split <;> omega)
  simp only [bitOp, ofInt_nat]
  rw [BitVec.toNat_or, BitVec.toNat_ofNat, BitVec.toNat_ofNat, Nat.mod_eq_of_lt (by omega), Nat.mod_eq_of_lt (by omega)]
  exact wrap_nat k _ (Nat.or_lt_two_pow ha hb)
theorem and_u8 (a b : Nat) (ha : a < 256) (hb : b < 256) : bitOp .and .u8 a b = ((a &&& b : Nat) : Int) := bitOp_and .u8 a b ha hb
theorem or_u8 (a b : Nat) (ha : a < 256) (hb : b < 256) : bitOp .or .u8 a b = ((a ||| b : Nat) : Int) := bitOp_or .u8 a b ha hb
theorem and_i64 (a b : Nat) (ha : a < 9223372036854775808) (hb : b < 9223372036854775808) : bitOp .and .i64 a b = ((a &&& b : Nat) : Int) := bitOp_and .i64 a b ha hb
theorem or_i64 (a b : Nat) (ha : a < 9223372036854775808) (hb : b < 9223372036854775808) : bitOp .or .i64 a b = ((a ||| b : Nat) : Int) := bitOp_or .i64 a b ha hb
theorem shr_nat (k : IntKind) (a n : Nat) (hn : n ≤ k.bits) : shrOp k a n = ((a >>> n : Nat) : Int) := by
  simp only [shrOp, Int.toNat_natCast, Nat.min_eq_left hn]
  rw [Int.fdiv_eq_ediv_of_nonneg _ (Int.le_of_lt (Int.pow_pos (by omega))), Nat.shiftRight_eq_div_pow]
  simp
theorem shl_nat (k : IntKind) (a n : Nat) (hn : n ≤ k.bits) : shlOp k a n = k.wrap ((a * 2 ^ n : Nat) : Int) := by
  simp only [shlOp, Int.toNat_natCast, Nat.min_eq_left hn]
  simp

theorem or_zero_iff (a b : Nat) : a ||| b = 0 ↔ a = 0 ∧ b = 0 := by
  simp
end Go.V
