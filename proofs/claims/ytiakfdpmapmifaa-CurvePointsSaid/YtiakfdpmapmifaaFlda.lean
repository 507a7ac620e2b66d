/- The program's number brought below 2^255 - 19 and written: plain numbers; no condition but those in the statements. -/
import Derived.Test.YtiakfdpmapmifaaFlde
namespace Go.Proofs.Ytiakfdpmapmifaa
open Go Go.V
set_option linter.unusedSimpArgs false
set_option linter.unusedVariables false
set_option maxRecDepth 100000
theorem and16 (x : Int) : bitOp .and .i64 x 65535 = x % 65536 := by
  have e : BitVec.ofInt 64 65535 = BitVec.ofNat 64 65535 := rfl
  have h : bitOp .and .i64 x 65535 = IntKind.i64.wrap ((BitVec.ofInt 64 x &&& BitVec.ofInt 64 65535).toNat : Int) := rfl
  rw [h, e, BitVec.toNat_and, BitVec.toNat_ofNat, BitVec.toNat_ofInt, show 65535 % 2 ^ 64 = 2 ^ 16 - 1 from rfl, Nat.and_two_pow_sub_one_eq_mod, wrap_nat .i64 _ (by show _ < 2 ^ 63; omega)]
  omega
theorem and1 (x : Int) : bitOp .and .i64 x 1 = x % 2 := by
  have e : BitVec.ofInt 64 1 = BitVec.ofNat 64 1 := rfl
  have h : bitOp .and .i64 x 1 = IntKind.i64.wrap ((BitVec.ofInt 64 x &&& BitVec.ofInt 64 1).toNat : Int) := rfl
  rw [h, e, BitVec.toNat_and, BitVec.toNat_ofNat, BitVec.toNat_ofInt, show 1 % 2 ^ 64 = 2 ^ 1 - 1 from rfl, Nat.and_two_pow_sub_one_eq_mod, wrap_nat .i64 _ (by show _ < 2 ^ 63; omega)]
  omega
/-- The digits of 2^255 - 19. -/
def fpd (i : Nat) : Int := if i = 0 then 65517 else if i = 15 then 32767 else 65535
def fbor (l : List Int) : Nat → Int
  | 0 => 0
  | i + 1 => if l.getD i 0 - fpd i - fbor l i < 0 then 1 else 0
def fsub (l : List Int) : List Int := (List.range 16).map fun i => (l.getD i 0 - fpd i - fbor l i) % 65536
def fonce (l : List Int) : List Int := if fbor l 16 = 0 then fsub l else l
def P255 : Int := 57896044618658097711785492504343953926634992332820282019728792003956564819949
theorem fbor_bit (l : List Int) : ∀ i, fbor l i = 0 ∨ fbor l i = 1
  | 0 => Or.inl rfl
  | i + 1 => by rw [fbor]; split <;> simp
theorem fpd_bound (i : Nat) : 0 ≤ fpd i ∧ fpd i ≤ 65535 := by unfold fpd; split <;> (try split) <;> omega
theorem Near.cell {l : List Int} (w : Near 0 l) {i : Nat} (hi : i < 16) : 0 ≤ l.getD i 0 ∧ l.getD i 0 < 65536 := by
  by_cases e : i = 0
  · subst e; have := w.2.1; omega
  · exact w.2.2 i (by omega) hi
theorem fsub_at (l : List Int) {i : Nat} (hi : i < 16) : (fsub l).getD i 0 = (l.getD i 0 - fpd i - fbor l i) % 65536 := by
  unfold fsub
  rw [List.getD_eq_getElem?_getD, List.getElem?_map, List.getElem?_range hi]; rfl
theorem fsub_near (l : List Int) : Near 0 (fsub l) := by
  refine ⟨by unfold fsub; simp, ?_, fun j h1 h2 => ?_⟩
  · rw [fsub_at l (by omega)]; omega
  · rw [fsub_at l h2]; omega
theorem fonce_near {l : List Int} (w : Near 0 l) : Near 0 (fonce l) := by
  unfold fonce; split
  · exact fsub_near l
  · exact w
theorem fsub_part {l : List Int} (w : Near 0 l) : ∀ n, n ≤ 16 → vS (fun i => (fsub l).getD i 0) n = vS (fun i => l.getD i 0) n - vS fpd n + fbor l n * 65536 ^ n
  | 0, _ => by simp [vS, fbor]
  | n + 1, hn => by
    have c := w.cell (i := n) (by omega)
    have p := fpd_bound n
    have b := fbor_bit l n
    rw [vS, vS, vS, fsub_part w n (by omega), fsub_at l (by omega)]
    have e : (l.getD n 0 - fpd n - fbor l n) % 65536 = l.getD n 0 - fpd n - fbor l n + 65536 * fbor l (n + 1) := by
      rw [fbor]
      split <;> omega
    rw [e, Int.add_mul, Int.sub_mul, Int.sub_mul, Int.pow_succ]
    rw [show 65536 * fbor l (n + 1) * 65536 ^ n = fbor l (n + 1) * (65536 ^ n * 65536) by rw [Int.mul_comm (65536 ^ n) 65536, ← Int.mul_assoc, Int.mul_comm 65536 (fbor l (n + 1))]]
    omega
theorem vS_digits {f : Nat → Int} : ∀ n, (∀ i, i < n → 0 ≤ f i ∧ f i < 65536) → 0 ≤ vS f n ∧ vS f n < 65536 ^ n
  | 0, _ => by simp [vS]
  | n + 1, h => by
    obtain ⟨a, b⟩ := vS_digits n (fun i hi => h i (by omega))
    obtain ⟨c, d⟩ := h n (by omega)
    have hp : (0 : Int) < 65536 ^ n := Int.pow_pos (by omega)
    have e1 : 0 ≤ f n * 65536 ^ n := Int.mul_nonneg c (by omega)
    have e2 : f n * 65536 ^ n ≤ 65535 * 65536 ^ n := Int.mul_le_mul_of_nonneg_right (by omega) (by omega)
    rw [vS, Int.pow_succ]
    omega
theorem Near.val {l : List Int} (w : Near 0 l) : 0 ≤ vF l ∧ vF l < 65536 ^ 16 := by
  rw [vF_vS, w.1]
  exact vS_digits 16 fun i hi => w.cell hi
theorem fpd_val : vS fpd 16 = P255 := by decide
theorem fsub_val {l : List Int} (w : Near 0 l) : vF (fsub l) = vF l - P255 + fbor l 16 * 65536 ^ 16 := by
  have h := fsub_part w 16 (by omega)
  rw [vF_vS, vF_vS, (fsub_near l).1, w.1, h, fpd_val]
/-- One conditional subtraction. -/
theorem fonce_val {l : List Int} (w : Near 0 l) : vF (fonce l) = if P255 ≤ vF l then vF l - P255 else vF l := by
  have h := fsub_val w
  have a := w.val
  have b := (fsub_near l).val
  have hp : P255 = 57896044618658097711785492504343953926634992332820282019728792003956564819949 := rfl
  have hq : (65536 : Int) ^ 16 = 115792089237316195423570985008687907853269984665640564039457584007913129639936 := rfl
  rw [hq] at a b h
  unfold fonce
  rcases fbor_bit l 16 with e | e
  · rw [if_pos e]
    rw [e] at h
    rw [if_pos (by omega)]; omega
  · rw [if_neg (by omega)]
    rw [e] at h
    rw [if_neg (by omega)]
/-- Two of them bring any sixteen digits below 2^255 - 19. -/
theorem ftwice_val {l : List Int} (w : Near 0 l) : vF (fonce (fonce l)) = vF l % P255 := by
  have a := w.val
  have hp : P255 = 57896044618658097711785492504343953926634992332820282019728792003956564819949 := rfl
  have hq : (65536 : Int) ^ 16 = 115792089237316195423570985008687907853269984665640564039457584007913129639936 := rfl
  rw [hq] at a
  rw [fonce_val (fonce_near w), fonce_val w]
  rw [hp] at *
  split <;> (try split) <;> omega
end Go.Proofs.Ytiakfdpmapmifaa
namespace Go.Proofs.Ytiakfdpmapmifaa
open Go Go.V
set_option linter.unusedSimpArgs false
set_option linter.unusedVariables false
set_option maxRecDepth 100000
/-- What a cell is before it is cut to sixteen bits. -/
def fraw (l : List Int) (i : Nat) : Int := l.getD i 0 - fpd i - fbor l i
/-- The list when cell i is next. -/
def fst (l : List Int) (i : Nat) : List Int := (List.range 16).map fun j => if j + 1 < i then fraw l j % 65536 else if j + 1 = i then fraw l j else l.getD j 0
theorem fst_length (l : List Int) (i : Nat) : (fst l i).length = 16 := by simp [fst]
theorem fst_at (l : List Int) (i : Nat) {j : Nat} (hj : j < 16) : (fst l i).getD j 0 = if j + 1 < i then fraw l j % 65536 else if j + 1 = i then fraw l j else l.getD j 0 := by
  unfold fst
  rw [List.getD_eq_getElem?_getD, List.getElem?_map, List.getElem?_range hj]; rfl
theorem ext16 {a b : List Int} (ha : a.length = 16) (hb : b.length = 16) (h : ∀ j, j < 16 → a.getD j 0 = b.getD j 0) : a = b :=
  List.ext_getElem (by omega) fun j p q => by rw [← igetD_get p, ← igetD_get q]; exact h j (by omega)
theorem fst_first {l : List Int} (hl : l.length = 16) : l.set 0 (l.getD 0 0 - 65517) = fst l 1 := by
  refine ext16 (by simp [hl]) (fst_length l 1) fun j hj => ?_
  rw [fst_at l 1 hj, if_neg (by omega)]
  by_cases e : j = 0
  · subst e; rw [igetD_set_eq (by omega), if_pos rfl]; simp [fraw, fpd, fbor]
  · rw [igetD_set_ne (by omega), if_neg (by omega)]
theorem fst_step {l : List Int} {i : Nat} (h1 : 1 ≤ i) (h2 : i < 16) : ((fst l i).set i (fraw l i)).set (i - 1) (fraw l (i - 1) % 65536) = fst l (i + 1) := by
  refine ext16 (by simp [fst_length]) (fst_length _ _) fun j hj => ?_
  rw [fst_at l (i + 1) hj]
  by_cases e : j = i - 1
  · subst e; rw [igetD_set_eq (by rw [List.length_set, fst_length]; omega), if_pos (by omega)]
  · rw [igetD_set_ne (by omega)]
    by_cases e2 : j = i
    · subst e2; rw [igetD_set_eq (by rw [fst_length]; omega), if_neg (by omega), if_pos rfl]
    · rw [igetD_set_ne (by omega), fst_at l i hj]
      by_cases e3 : j + 1 < i
      · rw [if_pos e3, if_pos (by omega)]
      · rw [if_neg e3, if_neg (by omega), if_neg (by omega), if_neg (by omega)]
theorem fst_last {l : List Int} : (fst l 16).set 15 (fraw l 15 % 65536) = fsub l := by
  refine ext16 (by simp [fst_length]) (fsub_near l).1 fun j hj => ?_
  rw [fsub_at l hj]
  by_cases e : j = 15
  · subst e; rw [igetD_set_eq (by rw [fst_length]; omega)]; rfl
  · rw [igetD_set_ne (by omega), fst_at l 16 hj, if_pos (by omega)]; rfl
/-- What is read of the cell before: the borrow. -/
theorem fraw_bor {l : List Int} (w : Near 0 l) {i : Nat} (hi : i < 16) : fraw l i / 65536 % 2 = fbor l (i + 1) ∧ -65536 ≤ fraw l i ∧ fraw l i ≤ 65535 := by
  have c := w.cell hi
  have p := fpd_bound i
  have b := fbor_bit l i
  have e : fraw l i = l.getD i 0 - fpd i - fbor l i := rfl
  rw [fbor, ← e]
  split <;> omega
end Go.Proofs.Ytiakfdpmapmifaa
