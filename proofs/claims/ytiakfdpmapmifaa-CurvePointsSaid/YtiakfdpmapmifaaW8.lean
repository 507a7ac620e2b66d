/- W8: lists that are filled place by place; small numbers out of bytes. -/
import Derived.Test.YtiakfdpmapmifaaW7
namespace Go.V
theorem hc_last {h : Hp} {b o : Nat} {cs : List Value} {t : TypeId} (hg : h[b]? = some (.cells cs.toArray t)) : hc h ⟨b, o, none⟩ = nth cs o := by
  rw [hc_of_get hg, nth_eq]; simp
theorem rd_last {h : Hp} {b : Nat} {cs : List Value} {t : TypeId} (hg : h[b]? = some (.cells cs.toArray t)) {n : Nat} (hn : cs.length = n) : rd h ⟨b, 0, none⟩ n = some cs := by
  unfold rd
  simp only [hg, true_and, Nat.zero_add, List.size_toArray]
  rw [if_pos (by omega), List.drop_zero, ← hn, List.take_length]
theorem getD_byte {l : List Nat} (hb : ∀ x ∈ l, x < 256) (i : Nat) : l.getD i 0 < 256 := by
  rw [List.getD_eq_getElem?_getD]
  cases hx : l[i]? with
  | none => simp
  | some x => exact hb x (List.mem_of_getElem? hx)
/-- What a slice of bytes is, opened, each byte by its place. -/
theorem Bs.opend {h : Hp} {v : Value} {l : List Nat} (s : Bs h v l) : ∃ p cap, v = .slice p l.length cap ∧ (l ≠ [] → ∃ b o, p = some ⟨b, o, none⟩ ∧ b < h.size ∧ ∀ i, i < l.length → hc h ⟨b, o + i, none⟩ = some (.int .u8 (l.getD i 0 : Nat))) := by
  obtain ⟨p, cap, hv, hc1⟩ := s.open
  refine ⟨p, cap, hv, fun hne => ?_⟩
  obtain ⟨b, o, hp, hb, hcs⟩ := hc1 hne
  refine ⟨b, o, hp, hb, fun i hi => ?_⟩
  rw [hcs i hi, List.getD_eq_getElem?_getD, List.getElem?_eq_getElem hi]; rfl
theorem lput_full {zs vs : List Value} (h : vs.length = zs.length) : lput zs 0 vs = vs := by
  rw [lput_zero _ _ (by omega), h, List.drop_length, List.append_nil]
theorem Bel.addP {B : Nat} {h h' : Hp} (a : Bel B h h') (hB : B ≤ h'.size) (o : Obj) : Bel B h (h'.push o) := a.trans (Bel.push hB o)
end Go.V
