/- W8: lists that are filled place by place; small numbers out of bytes. -/
import Derived.Test.YtnpacofabdgcdaaDoorW7
namespace Go.V
theorem fill_step {α : Type} (xs zs : List α) (i : Nat) (hi : i < xs.length) (hz : xs.length = zs.length) : (xs.take i ++ zs.drop i).set i xs[i] = xs.take (i + 1) ++ zs.drop (i + 1) := by
  have hl : (xs.take i).length = i := by rw [List.length_take]; omega
  have e1 : zs.drop i = zs[i]'(by omega) :: zs.drop (i + 1) := List.drop_eq_getElem_cons (by omega)
  rw [take_snoc xs i hi, e1, List.set_append_right _ _ (by omega), hl, Nat.sub_self, List.set_cons_zero, List.append_assoc]
  rfl
theorem fill_done {α : Type} (xs zs : List α) (hz : xs.length = zs.length) : xs.take xs.length ++ zs.drop xs.length = xs := by
  rw [List.take_length, hz, List.drop_length, List.append_nil]
theorem fill_none {α : Type} (xs zs : List α) : xs.take 0 ++ zs.drop 0 = zs := by simp
theorem fill_length {α : Type} (xs zs : List α) (i : Nat) (hi : i ≤ xs.length) (hz : xs.length = zs.length) : (xs.take i ++ zs.drop i).length = xs.length := by
  simp only [List.length_append, List.length_take, List.length_drop]; omega
/-- Disjoint bits: or is plus. -/
theorem or_add {a b k : Nat} (hb : b < 2 ^ k) (ha : a % 2 ^ k = 0) : a ||| b = a + b := by
  have : a = 2 ^ k * (a / 2 ^ k) := by have := Nat.div_add_mod a (2 ^ k); omega
  rw [this]
  exact (Nat.two_pow_add_eq_or_of_lt hb _).symm
theorem or_four {a b c d : Nat} (hb : b < 256) (hc : c < 256) (hd : d < 256) : a * 16777216 ||| b * 65536 ||| c * 256 ||| d = a * 16777216 + b * 65536 + c * 256 + d := by
  have e1 : a * 16777216 ||| b * 65536 = a * 16777216 + b * 65536 := or_add (k := 24) (by omega) (by omega)
  have e2 : (a * 16777216 + b * 65536) ||| c * 256 = a * 16777216 + b * 65536 + c * 256 := or_add (k := 16) (by omega) (by omega)
  have e3 : (a * 16777216 + b * 65536 + c * 256) ||| d = a * 16777216 + b * 65536 + c * 256 + d := or_add (k := 8) (by omega) (by omega)
  rw [e1, e2, e3]
theorem hc_last {h : Hp} {b o : Nat} {cs : List Value} {t : TypeId} (hg : h[b]? = some (.cells cs.toArray t)) : hc h ⟨b, o, none⟩ = nth cs o := by
  rw [hc_of_get hg, nth_eq]; simp
theorem rd_last {h : Hp} {b : Nat} {cs : List Value} {t : TypeId} (hg : h[b]? = some (.cells cs.toArray t)) {n : Nat} (hn : cs.length = n) : rd h ⟨b, 0, none⟩ n = some cs := by
  unfold rd
  simp only [hg, true_and, Nat.zero_add, List.size_toArray]
  rw [if_pos (by omega), List.drop_zero, ← hn, List.take_length]
theorem rd_part {h : Hp} {b o : Nat} {cs : List Value} {t : TypeId} (hg : h[b]? = some (.cells cs.toArray t)) {n : Nat} (hn : o + n ≤ cs.length) : rd h ⟨b, o, none⟩ n = some ((cs.drop o).take n) := by
  unfold rd
  simp only [hg, true_and, List.size_toArray]
  rw [if_pos hn]
theorem getD_byte {l : List Nat} (hb : ∀ x ∈ l, x < 256) (i : Nat) : l.getD i 0 < 256 := by
  rw [List.getD_eq_getElem?_getD]
  cases hx : l[i]? with
  | none => simp
  | some x => exact hb x (List.mem_of_getElem? hx)
theorem shl_byte {x : Nat} (hx : x < 256) (k : Nat) (hk : k ≤ 24) : shlOp .i64 (x : Int) (k : Int) = ((x * 2 ^ k : Nat) : Int) := by
  rw [shl_nat .i64 x k (by show k ≤ 64; omega), wrap_nat .i64 _ ?_]
  show x * 2 ^ k < 2 ^ 63
  have : 2 ^ k ≤ 2 ^ 24 := Nat.pow_le_pow_right (by omega) hk
  have h2 : x * 2 ^ k ≤ 255 * 2 ^ 24 := Nat.mul_le_mul (by omega) this
  omega
/-- What a slice of bytes is, opened, each byte by its place. -/
theorem Bs.opend {h : Hp} {v : Value} {l : List Nat} (s : Bs h v l) : ∃ p cap, v = .slice p l.length cap ∧ (l ≠ [] → ∃ b o, p = some ⟨b, o, none⟩ ∧ b < h.size ∧ ∀ i, i < l.length → hc h ⟨b, o + i, none⟩ = some (.int .u8 (l.getD i 0 : Nat))) := by
  obtain ⟨p, cap, hv, hc1⟩ := s.open
  refine ⟨p, cap, hv, fun hne => ?_⟩
  obtain ⟨b, o, hp, hb, hcs⟩ := hc1 hne
  refine ⟨b, o, hp, hb, fun i hi => ?_⟩
  rw [hcs i hi, List.getD_eq_getElem?_getD, List.getElem?_eq_getElem hi]; rfl
theorem fitK_one : ∀ {ks : List (Option IntKind)} {vs : List Value}, fitK ks vs = true → vs.all oneC = true := by
  intro ks
  induction ks with
  | nil => intro vs h; cases vs with
    | nil => rfl
    | cons v vs => simp [fitK] at h
  | cons k ks ih => intro vs h; cases vs with
    | nil => rfl
    | cons v vs =>
      simp only [fitK, Bool.and_eq_true] at h
      rw [List.all_cons, ih h.2, Bool.and_true]
      cases v <;> first | rfl | (have := h.1; cases k <;> simp [cellOk] at this)
theorem leq_self : ∀ {ks : List (Option IntKind)} {vs : List Value}, fitK ks vs = true → leq vs vs = true := by
  intro ks
  induction ks with
  | nil => intro vs h; cases vs with
    | nil => rfl
    | cons v vs => simp [fitK] at h
  | cons k ks ih => intro vs h; cases vs with
    | nil => rfl
    | cons v vs =>
      simp only [fitK, Bool.and_eq_true] at h
      rw [leq, ih h.2, Bool.and_true]
      have h1 := h.1
      cases k <;> cases v <;> simp [cellOk] at h1 <;> simp [ceq]
theorem leq_eq : ∀ {ks : List (Option IntKind)} {a b : List Value}, fitK ks a = true → fitK ks b = true → leq a b = true → a = b := by
  intro ks
  induction ks with
  | nil => intro a b ha hb _; cases a <;> cases b <;> first | rfl | simp [fitK] at ha hb
  | cons k ks ih =>
    intro a b ha hb h
    cases a with
    | nil => simp [fitK] at ha
    | cons x a =>
      cases b with
      | nil => simp [fitK] at hb
      | cons y b =>
        simp only [fitK, Bool.and_eq_true] at ha hb
        simp only [leq, Bool.and_eq_true] at h
        rw [ih ha.2 hb.2 h.2]
        congr 1
        have h1 := ha.1
        have h2 := hb.1
        have h3 := h.1
        cases k <;> cases x <;> simp [cellOk] at h1 <;> cases y <;> simp [cellOk] at h2 <;> simp [ceq] at h3 <;> simp_all
theorem lput_full {zs vs : List Value} (h : vs.length = zs.length) : lput zs 0 vs = vs := by
  rw [lput_zero _ _ (by omega), h, List.drop_length, List.append_nil]
theorem Bel.addP {B : Nat} {h h' : Hp} (a : Bel B h h') (hB : B ≤ h'.size) (o : Obj) : Bel B h (h'.push o) := a.trans (Bel.push hB o)
end Go.V
