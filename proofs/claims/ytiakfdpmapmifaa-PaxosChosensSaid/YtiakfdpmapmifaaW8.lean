/- W8: lists that are filled place by place; small numbers out of bytes. -/
import Derived.Test.YtiakfdpmapmifaaW7
namespace Go.V
theorem hc_last {h : Hp} {b o : Nat} {cs : List Value} {t : TypeId} (hg : h[b]? = some (.cells cs.toArray t)) : hc h ⟨b, o, none⟩ = nth cs o := by
  rw [hc_of_get hg, nth_eq]; simp
theorem rd_last {h : Hp} {b : Nat} {cs : List Value} {t : TypeId} (hg : h[b]? = some (.cells cs.toArray t)) {n : Nat} (hn : cs.length = n) : rd h ⟨b, 0, none⟩ n = some cs := by
  unfold rd
  simp only [hg, true_and, Nat.zero_add, List.size_toArray]
  rw [if_pos (by omega), List.drop_zero, ← hn, List.take_length]
theorem rd_part {h : Hp} {b o : Nat} {cs : List Value} {t : TypeId} (hg : h[b]? = some (.cells cs.toArray t)) {n : Nat} (hn : o + n ≤ cs.length) : rd h ⟨b, o, none⟩ n = some ((cs.drop o).take n) := by
  unfold rd
  simp only [hg, true_and, List.size_toArray]
  rw [if_pos hn]
theorem lput_full {zs vs : List Value} (h : vs.length = zs.length) : lput zs 0 vs = vs := by
  rw [lput_zero _ _ (by omega), h, List.drop_length, List.append_nil]
theorem Bel.addP {B : Nat} {h h' : Hp} (a : Bel B h h') (hB : B ≤ h'.size) (o : Obj) : Bel B h (h'.push o) := a.trans (Bel.push hB o)
end Go.V
