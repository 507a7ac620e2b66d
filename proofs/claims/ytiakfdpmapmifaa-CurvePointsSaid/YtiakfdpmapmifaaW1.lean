/- W1: what fits a type, opened: integers, bools, slices; element by element. -/
import Derived.Test.YtiakfdpmapmifaaV8
namespace Go.V
set_option linter.unusedVariables false
set_option linter.unusedSimpArgs false

theorem fit_int {P : Program} {h : Hp} {k : Nat} {t : TypeId} {cs : List Value} {i : IntKind} (ht : P.underlying t = some (.int i)) (hf : fit P h k t cs) : ∃ n, cs = [.int i n] ∧ (Lit.int i n).wf = true := by
  cases k with
  | zero => exact hf.elim
  | succ k => unfold fit at hf; rw [ht] at hf; exact hf
/-- The cells of a list of things, each of n cells. -/
def encs {α : Type} (enc : α → List Value) : List α → List Value
  | [] => []
  | x :: l => enc x ++ encs enc l
theorem encs_append {α : Type} (enc : α → List Value) (l k : List α) : encs enc (l ++ k) = encs enc l ++ encs enc k := by
  induction l with
  | nil => rfl
  | cons x l ih => simp [encs, ih]
theorem encs_length {α : Type} {enc : α → List Value} {n : Nat} (henc : ∀ x, (enc x).length = n) (l : List α) : (encs enc l).length = l.length * n := by
  induction l with
  | nil => simp [encs]
  | cons x l ih => simp [encs, ih, henc, Nat.add_mul, Nat.add_comm]
theorem encs_one {α : Type} (f : α → Value) (l : List α) : encs (fun x => [f x]) l = l.map f := by
  induction l with
  | nil => rfl
  | cons x l ih => simp [encs, ih]
theorem cellsAt_append {h : Hp} {b o : Nat} {cs ds : List Value} (h1 : cellsAt h b o cs) (h2 : cellsAt h b (o + cs.length) ds) : cellsAt h b o (cs ++ ds) := by
  intro i hi
  by_cases hlt : i < cs.length
  · rw [h1 i hlt]; simp [hlt]
  · have := h2 (i - cs.length) (by simp at hi; omega)
    rw [show o + cs.length + (i - cs.length) = o + i by omega] at this
    rw [this]; simp [List.getElem_append, hlt]
theorem collect {α : Type} {h : Hp} {b o n : Nat} {enc : α → List Value} {ok : α → Prop} (henc : ∀ x, (enc x).length = n) : ∀ len, (∀ i, i < len → ∃ x, ok x ∧ cellsAt h b (o + i * n) (enc x)) →
    ∃ l : List α, l.length = len ∧ cellsAt h b o (encs enc l) ∧ ∀ x ∈ l, ok x := by
  intro len
  induction len with
  | zero => intro _; exact ⟨[], rfl, fun i hi => by simp [encs] at hi, fun x hx => by cases hx⟩
  | succ len ih =>
    intro H
    obtain ⟨l, h1, h2, h3⟩ := ih (fun i hi => H i (by omega))
    obtain ⟨x, hx, hc⟩ := H len (by omega)
    refine ⟨l ++ [x], by simp [h1], ?_, fun y hy => ?_⟩
    · rw [encs_append]
      refine cellsAt_append h2 ?_
      rw [encs_length henc, h1]
      simpa [encs] using hc
    · rcases List.mem_append.1 hy with hy | hy
      · exact h3 y hy
      · simp at hy; subst hy; exact hx
theorem fit_slice {α : Type} {P : Program} {h : Hp} {k : Nat} {t e : TypeId} {v : Value} {n : Nat} {enc : α → List Value} {ok : α → Prop} (ht : P.underlying t = some (.slice e)) (hn : P.cellsOf e = n) (hn0 : n ≠ 0) (henc : ∀ x, (enc x).length = n)
    (each : ∀ k ds, fit P h k e ds → ∃ x, ok x ∧ ds = enc x) (hf : fit P h k t [v]) :
    ∃ l : List α, Sl n h v l.length (encs enc l) ∧ (∀ x ∈ l, ok x) ∧ l.length * P.bytesOf e ≤ 140737488355328 := by
  cases k with
  | zero => exact hf.elim
  | succ k =>
    unfold fit at hf
    rw [ht] at hf
    obtain ⟨p, len, cap, hv, hlc, hcap, hel⟩ := hf
    simp only [List.cons.injEq, and_true] at hv
    subst hv
    have hbytes : len * P.bytesOf e ≤ 140737488355328 := Nat.le_trans (Nat.mul_le_mul_right _ hlc) (Nat.le_trans hcap (by decide))
    by_cases hl : len = 0
    · subst hl
      exact ⟨[], ⟨p, cap, rfl, by simp [encs], fun h => (h rfl).elim⟩, fun x hx => by (cases hx), by simp⟩
    · obtain ⟨b, o, rfl, hb, hall⟩ := hel hl (by omega)
      obtain ⟨l, h1, h2, h3⟩ := collect (h := h) (b := b) (o := o) (ok := ok) henc len (fun i hi => by
        obtain ⟨ds, hds, hc, hfe⟩ := hall i hi
        obtain ⟨x, hx, rfl⟩ := each k ds hfe
        exact ⟨x, hx, by rw [← hn]; exact hc⟩)
      exact ⟨l, ⟨_, cap, by rw [h1], encs_length henc l, fun _ => ⟨b, o, rfl, h2⟩⟩, h3, by rw [h1]; exact hbytes⟩
theorem wf_u8 {n : Int} (h : (Lit.int .u8 n).wf = true) : ∃ x : Nat, x < 256 ∧ n = x := by
  simp [Lit.wf, IntKind.min, IntKind.max, IntKind.signed, IntKind.bits] at h
  exact ⟨n.toNat, by omega, by omega⟩
theorem fit_bytes {P : Program} {h : Hp} {k : Nat} {t e : TypeId} {v : Value} (ht : P.underlying t = some (.slice e)) (he : P.underlying e = some (.int .u8)) (hn : P.cellsOf e = 1) (hb : P.bytesOf e = 1) (hf : fit P h k t [v]) :
    ∃ l, Bs h v l ∧ l.length ≤ 140737488355328 := by
  obtain ⟨l, h1, h2, h3⟩ := fit_slice (α := Nat) (enc := fun x => [bv x]) (ok := fun x => x < 256) ht hn (by omega) (fun _ => rfl) (fun k ds hfe => by
    obtain ⟨n, rfl, hw⟩ := fit_int he hfe
    obtain ⟨x, hx, rfl⟩ := wf_u8 hw
    exact ⟨x, hx, rfl⟩) hf
  rw [encs_one] at h1
  exact ⟨l, ⟨h1, h2⟩, by rw [hb] at h3; omega⟩
/-- Arguments, one by one. -/
theorem fitAll_nil {P : Program} {h : Hp} {vs : List Value} (hf : fitAll P h [] vs) : vs = [] := by
  cases vs with
  | nil => rfl
  | cons a l => exact hf.elim
theorem fitAll_cons {P : Program} {h : Hp} {t : TypeId} {ts : List TypeId} {vs : List Value} (hf : fitAll P h (t :: ts) vs) : ∃ v l, vs = v :: l ∧ (∃ k, fitV P h k t v) ∧ fitAll P h ts l := by
  cases vs with
  | nil => exact hf.elim
  | cons a l => exact ⟨a, l, rfl, hf.1, hf.2⟩
theorem fitV_one {P : Program} {h : Hp} {k : Nat} {t : TypeId} {v : Value} (ha : ta P t = some false) (hf : fitV P h k t v) : fit P h k t [v] := by
  unfold fitV at hf; rw [ha] at hf; exact hf
section
variable {P : Program} {T : World} {K : Value → Hp → Prop} {h : Hp}
@[go_sem] theorem vBin_eqlBt {t : TypeId} {x y : Operand} {a b : Bool} (ht : tboo P t = true) : vBin P .eql t x y (.bool a) (.bool b) K h = K (.bool (a == b)) h := vBin_eqlB (tboo_spec ht)
@[go_sem] theorem vBin_neqBt {t : TypeId} {x y : Operand} {a b : Bool} (ht : tboo P t = true) : vBin P .neq t x y (.bool a) (.bool b) K h = K (.bool (!(a == b))) h := vBin_neqB (tboo_spec ht)
end
end Go.V
